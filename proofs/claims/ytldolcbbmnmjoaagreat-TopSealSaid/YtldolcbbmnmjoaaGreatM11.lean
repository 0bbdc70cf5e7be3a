import Derived.Test.YtldolcbbmnmjoaaGreatM10
import Derived.WideLaws
import Derived.Shelf.SlSortCmp.WholeK
set_option maxRecDepth 8000
set_option maxHeartbeats 16000000
set_option linter.unusedVariables false
set_option linter.unusedSimpArgs false
set_option linter.unusedSectionVars false
set_option linter.defProp false
namespace Go.Sl
open Go Go.RowKit
section
variable{W:World}{P:Program}{n:Nat}{H:List ab}{f:Fr}{dst:Option Tmp}{ty_:TypeId}{pos:String}{after:Array Edge}{guard:Option (Nat×Bool)}
theorem af.ifaceHeld{op:BinOp}{x y:Operand}{s u t:TypeId}{v0 v:Value}(b:P.underlying s=some (.interface (P.methodsAt s)))(d:aD f x=some (.iface t v0))(e:aD f y=some .nilIface)(c:CA op false=some v):
  af W P n H f {dst,op:= .binOp op s x y u,type:=ty_,pos,after,guard} v:=by
 unfold af;intro g w a _;exact oM a d e c (by rintro o (rfl|rfl)<;>rfl) rfl rfl (run_equal_held_nil w s t v0 b)
theorem af.Ms{op:BinOp}{x:Operand}{c:Value}{s u:TypeId}{v:Value}(b:P.underlying s=some (.interface (P.methodsAt s)))(e:aD f x=some .nilIface)(g:aD f (.const c)=some .nilIface)(d:CA op true=some v):
  af W P n H f {dst,op:= .binOp op s x (.const c) u,type:=ty_,pos,after,guard} v:=by
 unfold af;intro h w a _;exact oM a e g d (by rintro o (rfl|rfl)<;>cases x<;>rfl) rfl rfl (run_equal_nil_nil w s b)
end
end Go.Sl
namespace Go.Proofs.YtldolcbbmnmjoaaGreat
open Go.RowKit Go.Sl
attribute [local irreducible] Sl.Own
theorem T3:Tryz.prog.underlying 20=some (.interface (Tryz.prog.methodsAt 20)):=by kernel_rfl
end Go.Proofs.YtldolcbbmnmjoaaGreat
namespace Go.Sl
open Go Go.RowKit
section
variable{W:World}{P:Program}{n:Nat}{H:List ab}{f:Fr}{dst:Option Tmp}{ty_:TypeId}{pos:String}{after:Array Edge}{guard:Option (Nat×Bool)}
theorem af.assertOk{x:Operand}{e t:TypeId}{v:Value}{a:TypeDesc}(c:P.underlying t=some a)(g:∀ms,a≠.interface ms)(d:aD f x=some (.iface t v)):
  af W P n H f {dst,op:= .typeAssert x e t true,type:=ty_,pos,after,guard} (.tuple #[v,.bool true]):=by
 unfold af;intro i w b h;cases a<;>simp_all [execOp,Instr.typeAssert,b.eval d,run_underlying c]
end
end Go.Sl
namespace Go.Proofs.YtldolcbbmnmjoaaGreat
open Go.RowKit Go.Sl
attribute [local irreducible] Sl.Own
abbrev stopI(e:Nat):Value:= .iface 243 (.agg #[i6 e])
theorem gp{W:World}{R:List ab}{ne:Nat}{u:Value}:
  jm W Tryz.prog 95 [ip ne] (Row ne 40 [u]::R) .returning .returning (Row ne 40 [u]::R):=by
 refine jm.Rm Tryz.func95 Tryz.ntmps95 rfl rfl rfl rfl rfl rfl rfl (.inr ⟨rfl,rfl,rfl⟩) ?_;refine w ?_;refine VO.pure rfl rfl (af.Ms T3 rfl rfl rfl) rfl ?_;refine w ?_;exact VE.result (.inr rfl) rfl λw a=>⟨⟨_,rfl⟩,a⟩
theorem guard_pan{W:World}{R:List ab}{ne:Nat}{u:Value}(e:Nat):
  jm W Tryz.prog 95 [ip ne] (Row ne 40 [u]::R) (.panicking (UD (stopI e))) (.panicking (Uj (stopI e))) (Row ne 40 [i6 e]::R):=by
 refine jm.Rm Tryz.func95 Tryz.ntmps95 rfl rfl rfl rfl rfl rfl rfl (.inl ⟨_,rfl,rfl,rfl⟩) ?_;refine w ?_;refine VO.pure rfl rfl (af.ifaceHeld T3 rfl rfl rfl) rfl ?_;obtain⟨a,c,b⟩:∃k,Tryz.prog.underlying 243=some k/\∀ms,k≠.interface ms:=⟨_,rfl,λms h=>by cases h⟩;refine w ?_;refine VO.pure rfl rfl (af.assertOk c b rfl) rfl ?_;refine zw ?_;refine ay.aB sb_243 rfl ?_;intro g;refine zS ([i6 e]) ?_;exact VE.result (.inr rfl) rfl λw d=>⟨⟨_,rfl⟩,(ae.re:ae W (_::Row ne 40 [i6 e]::R) (Row ne 40 [i6 e]::R)) w d⟩
theorem jD{W:World}{R:List ab}(a:Nat)(X:aY):az W Tryz.prog 96 [ip a] (Row a 94 X.cells::R) (.tuple #[]) (Row a 94 X.cells::R):=by
 refine ze Tryz.func96 Tryz.ntmps96 ?_;exact VE.b9 rfl rfl ae.refl
theorem y6{W:World}{H:List ab}{g:FuncId}{bnd cap:Array Value}{β:Type}{A:β->Prop}{G:β->List ab}(a:Nat)(b:∀a w,(callFunc g a).run Tryz.prog w= .ok (.enter g a) w)(spec:aq W Tryz.prog g (bnd.toList++[]++cap.toList) H A (λ_=>.agg cD.toArray) G):
  aq W Tryz.prog 98 [ip a,.func (.func g) bnd cap] H A (λ_=>.bool true) G:=by
 refine ze Tryz.func98 Tryz.ntmps98 ?_;refine VC.once rfl ?_;refine zw ?_;refine ay.gS rfl rfl b spec ae.refl rfl ?_;intro y c;refine zw ?_;refine ay.aB sb_172 rfl ?_;intro d;refine zS cD ?_;exact VE.done y rfl c rfl (ae.drop ae.refl)
theorem BS{W:World}{H:List ab}{g:FuncId}{bnd cap:Array Value}{β:Type}{A:β->Prop}{G:β->List ab}(a:Nat)(z:Int)(b:∀a w,(callFunc g a).run Tryz.prog w= .ok (.enter g a) w)(spec:aq W Tryz.prog g (bnd.toList++[]++cap.toList) H A (λ_=>.agg #[ii z,i6 0]) G):
  aq W Tryz.prog 131 [ip a,.func (.func g) bnd cap] H A (λ_=>.tuple #[]) G:=by
 refine ze Tryz.func131 Tryz.ntmps131 ?_;refine zq ?_;refine ay.gS rfl rfl b spec ae.refl rfl ?_;intro y c;refine zw ?_;refine ay.aB sb_172 rfl ?_;intro d;refine zS ([ii z,i6 0]) ?_;refine VC.once rfl ?_;refine w ?_;exact VE.qv y rfl c rfl (ae.drop ae.refl)
end Go.Proofs.YtldolcbbmnmjoaaGreat
namespace Go.Proofs.YtldolcbbmnmjoaaGreat
open Go.RowKit Go.Sl
attribute [local irreducible] Sl.Own
abbrev uV(b a:Nat)(X:aY)(R:List ab):List ab:=Row b 70 [ip a]::Row a 94 X.cells::R
theorem Ox{W:World}{R:List ab}{D:aw}{K:Kd}{n c0:Nat}{ao:Option Addr}{cap:Nat}(c b a r:Nat)(X:aY)(x:X.r=ik r)(Y:eA)(t:Y.ok)(fr:List Int)(e:fr.length=Y.m)(g:∀k row,k<Y.m->row<Y.s*Y.c->¬gB fr k row->∃q,K k=some q/\1+Y.s*Y.c<=q.last.length)(v:Bq D n K c0)(l:List aj)(m:bq W R ao l)(f:∀p∈l,p.Of Y)(u:l.length<=800000)(d:c0<=1000000):
  aq W Tryz.prog 132 [ip c,ip b] (uV c a X (Row b 126 [.slice ao l.length cap]::de r Y fr (al Y.b D::R))) (β:=aw×Kd) (λy=>Bq y.1 n y.2 (c0+l.length)/\fA (sI fr l) K y.2) (λ_=>.agg cD.toArray)
   (λy=>uV c a X (Row b 126 [.slice ao l.length cap]::de r Y fr (al Y.b y.1::R))):=by
 have i:=λo:Nat=>Az (W:=W) (R:=Row o 172 cD::uV c a X (Row b 126 [.slice ao l.length cap]::R)) (cap:=cap) r Y t fr e g v l (m.aR (ae.drop (ae.drop (ae.drop (ae.drop ae.refl))))) f u d;refine ze Tryz.func132 Tryz.ntmps132 ?_;refine zq ?_;refine ay.aB sb_172 rfl ?_;intro o;refine w ?_;refine zx [] 5 [0,1,2,3,4,5,6] _ ?_;refine w ?_;refine VD.re 6 (ip r) rfl (by rw[x]) ?_;refine zr (s:=i o) (h:=?_);intro D' j;refine zS cD ?_;exact VE.results1 (.inl rfl) D' rfl (aL.agg (vs:=cD) ah rfl rfl zm rfl rfl) j rfl ae.re
theorem Oy{W:World}{R:List ab}{D:aw}{c0:Nat}(c b a wp:Nat)(X:aY)(v:bT)(f:v.ok)(e:D.gE c0)(d:c0<=999990000):
  az W Tryz.prog 135 [ip c,ip b] (uV c a X (Row b 92 [ip wp]::bz wp X.b v::al X.b D::R)) (.agg #[ii X.m,i6 (eO (v,D) (v.epoch+1)).1])
   (uV c a X (Row b 92 [ip wp]::bz wp X.b (eO (v,D) (v.epoch+1)).2.1::al X.b (eO (v,D) (v.epoch+1)).2.2::R)):=by
 refine ze Tryz.func135 Tryz.ntmps135 ?_;refine zq ?_;refine ay.aB sb_172 rfl ?_;intro g;refine w ?_;refine zx [1] 3 [0,2,1,3,4,5] _ ?_;refine zr (s:=jX a X) (h:=?_);intro _ _;refine zr (s:=EW wp X.b v f e d) (h:=?_);intro _ _;generalize eO (v,D) (v.epoch+1)=q at*;refine w ?_;refine VD.end rfl rfl rfl (ay.pure (af.build sb_172 rfl (show aC _ _ _=some [ii X.m,i6 q.1]by simp[aC,bR,Value.cells])) rfl ?_);refine zS ([ii X.m,i6 q.1]) ?_;exact VE.results1 (.inl rfl) () rfl (aL.agg (vs:=[ii X.m,i6 q.1]) ah rfl rfl zm rfl rfl) trivial rfl ae.re
theorem Iw{W:World}{R:List ab}{D:aw}{K:Kd}{V:Nat->Nat->List UInt8}{n c0:Nat}{u:Value}(c b bi d a r:Nat)(X:aY)(o:X.r=ik r)(Y:eA)(e:Y.ok)(fr:List Int)(j:Data Y fr K V)(p:bq W R Y.wo Y.wl)(m:Bq D n K c0)(k i:Nat)(l:k+i<Y.s*Y.c* (Y.m-1)):
  aq W Tryz.prog 99 [ip c,ip b,ip bi,ip d] (uV c a X (Row b 3 [ii k]::Row bi 3 [ii i]::Row d 38 [u]::de r Y fr (al Y.b D::R))) (β:=mZ) (λy=>Bq y.D n K c0) (λ_=>.agg cD.toArray)
   (λy=>Qo (V (cJ Y.m Y.c (k+i)).av (cJ Y.m Y.c (k+i)).row) y (uV c a X (Row b 3 [ii k]::Row bi 3 [ii i]::Row d 38 [.slice y.x.1 128 y.x.2]::de r Y fr (al Y.b y.D::R)))):=by
 have q:Y.s*Y.c<=256*16:=RC e.s.2 e.c.2;have t:Y.s*Y.c* (Y.m-1)<=4096*15:=RC zO (by have:=e.m;omega);refine ze Tryz.func99 Tryz.ntmps99 ?_;refine zq ?_;refine ay.aB sb_172 rfl ?_;intro g;refine w ?_;refine zx [7,11] 12 [0,1,2,3,4,5,6,7,8,9,10,11,12] (Row g 172 cD::uV c a X (Row b 3 [ii k]::Row bi 3 [ii i]::de r Y fr R)) ?_;refine w ?_;refine VD.re 9 (ip r) rfl (by rw[o]) ?_;refine VD.re 12 (ii ((k+i:Nat):Int)) rfl (by congr 1) ?_;refine zr (s:=Nl (R:=Row g 172 cD::uV c a X (Row b 3 [ii k]::Row bi 3 [ii i]::Row d 38 [u]::R)) r Y e fr j (p.aR (ae.drop (ae.drop (ae.drop (ae.drop (ae.drop (ae.drop ae.refl))))))) m (k+i) l) (h:=?_);rintro⟨x,D'⟩ f;dsimp only at f⊢;refine⟨ae.re,?_⟩;refine zS cD ?_;refine zS cD ?_;exact VE.results1 (.inl rfl) (mZ.mk x D') rfl (aL.agg (vs:=cD) ah rfl rfl zm rfl rfl) f rfl ae.re
theorem vW{W:World}{R:List ab}(a:Nat)(X:aY)(b:X.ok):az W Tryz.prog 97 [ip a] (Row a 94 X.cells::R) (ii ((X.s*X.c* (X.m-1):Nat):Int)) (Row a 94 X.cells::R):=by
 (refine aq.enter Tryz.func97 Tryz.ntmps97 rfl rfl ?_);refine zt (s:=FN b.m b.c b.s) (h:=?_);intro _ _;refine w ?_;exact VE.ax rfl rfl ae.refl
theorem Iv{W:World}{R:List ab}{u:FrameMode}(ne no:Nat):jm W Tryz.prog 94 [ip ne,ip no] (Row ne 40 [i6 0]::R) u u (Row ne 40 [i6 0]::R):=by
 refine jm.Rl Tryz.func94 Tryz.ntmps94 rfl rfl ?_;refine w ?_;exact VE.result (.inr rfl) rfl λw a=>⟨⟨_,rfl⟩,a⟩
theorem BV{m c s k:Nat}(h:3<=m)(a:1<=c)(e:k<s*c* (m-1)):(cJ m c k).row<s*c/\(cJ m c k).av<m:=by
 have f:0<(m-1)*c:=Nat.mul_pos zO a;have b:k/((m-1)*c)<s:=mo (by rw[Aj ((m-1)*c),Aj (m-1),<-Nat.mul_assoc];exact e);refine⟨?_,qX _ zO⟩;show k/((m-1)*c)*c+k% ((m-1)*c)%c<s*c;have g:=qX (k% ((m-1)*c)) a;have d:(k/((m-1)*c)+1)*c<=s*c:=u0 c b;rw[Tk,Nat.one_mul]at d;omega
def Q7(m c:Nat)(V:Nat->Nat->List UInt8)(k:Nat):List UInt8:=V (cJ m c k).av (cJ m c k).row
def kI(m c:Nat)(V:Nat->Nat->List UInt8)(k i:Nat):List UInt8:=(List.range i).flatMap λj=>Q7 m c V (k+j)
theorem zo(m c:Nat)(V:Nat->Nat->List UInt8)(k i:Nat):kI m c V k (i+1)=kI m c V k i++Q7 m c V (k+i):=by
 unfold kI;rw[KQ,E5];simp
theorem C3{m c:Nat}{V:Nat->Nat->List UInt8}{k:Nat}:∀i,(∀j,j<i->(Q7 m c V (k+j)).length=128)->(kI m c V k i).length=i*128
 |0,_=>rfl
 |i+1,h=>by rw[zo,c9,C3 i λj a=>h j zO,h i zO];omega
theorem Lh{W:World}{R:List ab}{D:aw}{K:Kd}{V:Nat->Nat->List UInt8}{n c0:Nat}(a r:Nat)(X:aY)(d:X.ok)(hr:X.r=ik r)(Y:eA)(I:Y.ok)(N:Y.m=X.m)(p:Y.c=X.c)(O:Y.s=X.s)(fr:List Int)(H:Data Y fr K V)(F:bq W R Y.wo Y.wl)(Z:Bq D n K c0)(k q:Nat)(hk:k+q<=X.s*X.c* (X.m-1)):
  aq W Tryz.prog 57 [ip a,ii k,ii q] (Row a 94 X.cells::de r Y fr (al Y.b D::R)) (β:=aw×Option Addr×Nat) (λy=>Bq y.1 n K c0) (λy=>.tuple #[sliceB y.2 (kI X.m X.c V k q),i6 0])
   (λy=>b8 y.2 (kI X.m X.c V k q)::Row a 94 X.cells::de r Y fr (al Y.b y.1::R)):=by
 (refine aq.oL Tryz.func57 Tryz.ntmps57 rfl rfl ?_);refine wr ?_;refine zj λ_=>?_;refine wr ?_;refine zj λ_=>?_;refine wr ?_;rename_i t v;refine zq ?_;refine ay.alloc (z:=(.slice none 0 0)) (λw=>by simp) rfl rfl ?_;intro no;refine wr ?_;refine zq ?_;refine ay.alloc (z:=(i6 0)) (λw=>by simp) rfl rfl ?_;intro ne;refine wr ?_;refine VR.PW rfl ?_;refine VO.pure rfl rfl (af.bB rfl) rfl ?_;refine VO.Re rfl rfl rfl rfl ?_;refine wr ?_;refine VR.iF rfl rfl rfl rfl ?_;refine wr ?_;have h4:X.s*X.c<=256*16:=RC d.s.2 d.c.2;have h5:X.s*X.c* (X.m-1)<=4096*15:=RC zO (by have:=d.m;omega);have C:∀i,i<=q->(kI X.m X.c V k i).length=i*128:=λi M=>C3 i λj hj=>by
  obtain⟨g1,g2⟩:=BV (m:=X.m) (c:=X.c) (s:=X.s) (k:=k+j) d.m.1 d.c.1 zO;exact H.mu _ _ zO (by rw[O,p];exact g1)
 refine zr (s:=jD a X) (h:=?_);intro _ _;refine wr ?_;refine VR.drawn [9,15] 18 [0,1,2,3,4,5,6,7,8,9,10,11,12,13,14,16,15,17,18,19] _ rfl (by kernel_rfl) (by kernel_rfl) ae.re ?_;refine wr ?_;refine VD.gF rfl rfl rfl (gx zO) ?_;refine wr ?_;refine zr (s:=vW a X d) (h:=?_);intro _ _;refine wr ?_;refine VD.gF rfl rfl rfl (gx zO) ?_;refine wr ?_;refine zr (s:=vW a X d) (h:=?_);intro _ _;refine wr ?_;refine VR.aK rfl rfl (gx zO) ?_;refine wr ?_;refine VR.aR (H':=b8 (none,0) []::Row no 38 [.slice none 0 0]::Row ne 40 [i6 0]::Row t 70 [ip a]::Row v 3 [ii k]::Row a 94 X.cells::de r Y fr (al Y.b D::R)) (ae.trans (λw F=>Holds.aZ 5 1 F) ae.re) ?_
 refine VR.loop (α:=Nat×aw×(Option Addr×Nat)×List UInt8) (λy=>y.1<=q/\Bq y.2.1 n K c0/\y.2.2.2=kI X.m X.c V k y.1) (λy=>b8 y.2.2.1 y.2.2.2::Row no 38 [.slice y.2.2.1.1 y.2.2.2.length y.2.2.1.2]::Row ne 40 [i6 0]::Row t 70 [ip a]::Row v 3 [ii k]::Row a 94 X.cells::de r Y fr (al Y.b y.2.1::R))
  (λy=>[(3,ip t),(4,ip v),(6,ip no),(7,ip ne),(33,ii q),(34,ii y.1)]) (λy=>q-y.1) rfl (0,D,(none,0),[]) ⟨c7 _,Z,rfl⟩ ae.refl ⟨rfl,rfl,rfl,rfl,rfl,rfl,trivial⟩ ?_
 rintro⟨i,E,x,l⟩ ⟨M,o,G⟩;dsimp only at M o G⊢;have U:l.length=i*128:=by rw[G];exact C i M
 refine wr ?_;(refine VR.cond rfl rfl ?_ ?_<;>intro p)
 ·
  have S:i<q:=by have:=cI p;omega
  clear p;refine wr ?_;refine zq ?_;refine ay.alloc (z:=(ii 0)) (λw=>by simp) rfl rfl ?_;intro bi;refine wr ?_;refine zq ?_;refine ay.alloc (z:=(.slice none 0 0)) (λw=>by simp) rfl rfl ?_;intro P;refine wr ?_;refine VO.pure rfl rfl (af.bB rfl) rfl ?_;refine wr ?_;obtain⟨b,f⟩:∃b,V (cJ Y.m Y.c (k+i)).av (cJ Y.m Y.c (k+i)).row=b:=⟨_,rfl⟩;have A:b.length=128:=by
   obtain⟨g1,g2⟩:=BV (m:=Y.m) (c:=Y.c) (s:=Y.s) (k:=k+i) I.m.1 I.c.1 (by rw[N,O,‹Y.c=X.c›];omega);rw[<-f];exact H.mu _ _ g2 g1
  have B:=Iw (W:=W) (R:=b8 x l::Row no 38 [.slice x.1 l.length x.2]::Row ne 40 [i6 0]::R) (u:= .slice none 0 0) t v bi P a r X hr Y I fr H (F.aR (ae.drop (ae.drop (ae.drop ae.refl)))) o k i (by rw[O,‹Y.c=X.c›,N];omega);rw[f]at B;refine zr (s:=y6 a (g:=99) (bnd:=#[]) (cap:=#[ip t,ip v,ip bi,ip P]) (λ_ _=>by simp) B) (h:=?_);rintro⟨y,D'⟩ Q;dsimp only at Q;refine wr ?_;refine zq ?_;refine ay.append (m:=128) (news:=bytes b) eH rfl rfl zh (λw F=>(show jW w 1 (.slice y.1 128 y.2) 128 (bytes b)from jW.own (e:=5) (aQ _) F zm).src eH.tZ) (by simp only[maxLen];omega) zO rfl ?_;intro so sc;refine wr ?_;have J:kI X.m X.c V k (i+1)=l++b:=by
   rw[zo,<-G,<-f,N,‹Y.c=X.c›];rfl
  have L:(l++b).length=l.length+128:=by rw[c9,A]
  refine VF.round (i+1,D',(so,sc),l++b) ⟨S,Q,J.symm⟩ (by dsimp only;omega) ⟨rfl,rfl,rfl,rfl,rfl,b7 rfl (by congr 1),trivial⟩ ?_;dsimp only;unfold b8;rw[L,show bytes (l++b)=bytes l++bytes b from jv];exact ae.re
 have T:i=q:=by have:=dx p;omega
 clear p;subst T;subst G;refine wr ?_;refine VF.aR (H':=Row ne 40 [i6 0]::Row no 38 [.slice x.1 (kI X.m X.c V k i).length x.2]::b8 x (kI X.m X.c V k i)::Row a 94 X.cells::de r Y fr (al Y.b E::R)) ae.re ?_;exact VF.JC (.inl rfl) (λ_ _=>by simp) (λ_ _=>by simp) gp (Iv ne no) (E,x) rfl (aL.leaf ah rfl rfl (.tail _ (.head _)) rfl) (aL.leaf ah rfl rfl (.head _) rfl) o rfl (ae.drop (ae.drop ae.refl))
end Go.Proofs.YtldolcbbmnmjoaaGreat
namespace Go.Sl
open Go Go.RowKit
section
variable{W:World}{P:Program}{n:Nat}{H G':List ab}{f:Fr}
theorem VF.kU{fn:Func}{g:FuncId}{cap:Array Value}{vs:List Value}{c:ResultVar}{v:Value}{e:Exit}{β:Type}{A:β->Prop}{r:β->Value}{G:β->List ab}(m:e= .ret\/e= .normal)
  (l:∀a w,(callFunc g a).run P w= .ok (.enter g a) w)(spec:jm W P g (vs++cap.toList) H .returning .returning G')(x:β)(u:fn.results=#[c])(i:aL W P G' f c v)(j:A x)(q:v=r x)(k:ae W G' (G x)):
  VF W n ⟨none,[{target:= .fn (.func g) cap,args:=vs.toArray}]⟩ (bodyPostD P fn (lh W A r G)) e H f:=by
 unfold VF;intro _ t w o s;have key:Leaves P fn t (lh W A r G) [{target:= .fn (.func g) cap,args:=vs.toArray}] .returning w:=by
  refine leaves_cons (f:=g) (args:=vs.toArray++cap) (by simp) (by simp[Go.invoke,l]) ?_;unfold jm at spec;have b:=spec w s;rw[show(vs++cap.toList).toArray=vs.toArray++cap by apply Array.ext';simp]at b;refine CallsD.mono b ?_;rintro e y h ⟨rfl,⟨v0,rfl⟩,d⟩;have p:(results fn t).run P h= .ok v h:=by
   have:=i.run o d;cases c<;>simp_all [results]
  exact⟨_,p,x,j,by rw[q],k _ d⟩
 rcases m with rfl|rfl<;>exact key
end
end Go.Sl
namespace Go.Proofs.YtldolcbbmnmjoaaGreat
open Go.RowKit Go.Sl
attribute [local irreducible] Sl.Own
abbrev aY.put(X:aY)(k:Nat)(x:UInt8)(cur:Nat):aY:={X with st:=X.st.set k x,cur:=cur}
theorem tC(X:aY)(k:Nat)(x:UInt8)(cur:Nat):(X.put k x cur).cells=X.cells.set 12 (ii cur):=by
 show aY.cells _=_;unfold aY.cells aY.put;dsimp only;rw[Ub];rfl
theorem B0(X:aY)(k:Nat)(x:UInt8)(cur:Nat):dz (X.put k x cur)=Sl.Own 96 1 (.slice (some X.so) X.st.length X.sc) X.st.length ((bytes X.st).set k (ib (x.toNat:Int))):=by
 unfold dz aY.put;dsimp only;rw[Ub];congr 1;unfold bytes;rw[List.map_set];rfl
theorem La{W:World}{R:List ab}{D:aw}{K:Kd}{n c0:Nat}(a r:Nat)(X:aY)(o:X.ok)(Y:eA)(k:Nat)(E:k<X.m)(b:∀x∈X.st,x=1)(m:iS (X.put k 2 0) K n)(j:X.ro=false)(q:X.r=ik r)(p:Y.m=X.m)(fr:List Int)(y:fr.length=X.m)(A:Bq D n K c0)(e:c0<=1000000):
  aq W Tryz.prog 114 [ip a,ii k] (Row a 94 X.cells::dz X::de r Y fr (al X.b D::R)) (β:=aw) (λD'=>Bq D' n (jF (X.put k 2 0) K) (c0+40)) (λ_=>.tuple #[]) (λD'=>Row a 94 (X.put k 2 0).told.cells::dz (X.put k 2 0)::de r Y (bU (X.put k 2 0)) (al X.b D'::R)):=by
 have v:=o.m;have l:=o.st;have hb1:aV W (Row a 94 X.cells::dz X::de r Y fr (al X.b D::R)) 1 (some X.so) X.st.length (bytes X.st):=dz.gz zm;have t:X.st[k]'zO=1:=b _ (fF _);refine ze Tryz.func114 Tryz.ntmps114 ?_;rw[t];refine w ?_
 refine VC.loop (α:=Nat) (λi=>i<=X.m) (λ_=>Row a 94 X.cells::dz X::de r Y fr (al X.b D::R))
  (λi=>[(0,ip a),(1,ii k),(21,.slice (some X.so) X.st.length X.sc),(22,ii X.st.length),(23,ii i)]) (λi=>X.m-i) rfl 0 (c7 _) ae.refl ⟨rfl,rfl,rfl,rfl,rfl,trivial⟩ ?_
 intro i C;refine w ?_;refine zk ?_ ?_<;>intro d
 ·
  have z:i<X.st.length:=by have:=cI d;omega
  clear d;have u:X.st[i]=1:=b _ (fF _);refine w ?_;rw[u];refine zg ?_ ?_<;>intro B
  ·
   refine w ?_;exact VE.round (i+1) zO zO ⟨rfl,rfl,rfl,rfl,b7 rfl (by congr 1),trivial⟩ ae.refl
  ·
   refine w ?_;exact VE.round (i+1) zO zO ⟨rfl,rfl,rfl,rfl,b7 rfl (by congr 1),trivial⟩ ae.refl
 clear d;refine zw ?_;refine ay.EJ ah rfl rfl rfl rfl zh (by rw[ff];omega) ?_;refine w ?_;rw[show(bytes X.st).set k (ib 2)=(bytes X.st).set k (ib (((2:UInt8).toNat:Nat):Int))from rfl,<-B0 X k 2 0];rw[show X.cells.set _ (ii 0)=(X.put k 2 0).cells from(tC X k 2 0).symm];have c:=m.ok;refine zr (s:=rH a r (X.put k 2 0) c Y q p fr y) (h:=?_);intro _ _;refine zr (s:=lS a r (X.put k 2 0) Y m j q p (bU (X.put k 2 0)) (by unfold bU;rw[ew,Ub];exact l) A e) (h:=?_);intro D' g;refine w ?_;exact VE.qv D' rfl g rfl ae.re
theorem rI{W:World}{H:List ab}{g:FuncId}{bnd cap:Array Value}{β:Type}{A:β->Prop}{G:β->List ab}(a:Nat)(X:aY)(b:X.ro=false)(c:∀a w,(callFunc g a).run Tryz.prog w= .ok (.enter g a) w)(spec:aq W Tryz.prog g (bnd.toList++[]++cap.toList) (Row a 94 X.cells::H) A (λ_=>.agg cD.toArray) (λy=>Row a 94 X.cells::G y)):
  aq W Tryz.prog 110 [ip a,.func (.func g) bnd cap] (Row a 94 X.cells::H) A (λ_=>.tuple #[]) (λy=>Row a 94 X.cells::G y):=by
 refine ze Tryz.func110 Tryz.ntmps110 ?_;rw[b];refine zr (s:=y6 a c spec) (h:=?_);intro y d;refine w ?_;rw[b];refine w ?_;exact VE.qv y rfl d rfl ae.refl
theorem Lb{W:World}{R:List ab}{D:aw}{K:Kd}{n c0:Nat}{A:ak}(a r:Nat)(X:aY)(l:X.ok)(Y:eA)(k:Nat)(t:k<X.m)(d:K k=some A)(j:∀x∈X.st,x=1)(o:iS (X.put k 2 0) (del K k) n)(i:X.ro=false)(y:X.r=ik r)(u:Y.m=X.m)(fr:List Int)(q:fr.length=X.m)(v:Bq D n K c0)(c:c0<=1000000):
  aq W Tryz.prog 61 [ip a,ii k] (Row a 94 X.cells::dz X::de r Y fr (al X.b D::R)) (β:=aw) (λD'=>Bq D' n (jF (X.put k 2 0) (del K k)) (c0+40)) (λ_=>i6 0) (λD'=>Row a 94 (X.put k 2 0).told.cells::dz (X.put k 2 0)::de r Y (bU (X.put k 2 0)) (al X.b D'::R)):=by
 have p:=l.m;obtain⟨D1,m,g⟩:=v.fail d;have b:=λR=>Fq (W:=W) (R:=R) X.b D (k:Int);rw[m]at b;refine aq.oL Tryz.func61 Tryz.ntmps61 rfl rfl ?_;refine wr ?_;refine zq ?_;refine ay.alloc (z:=(i6 0)) (λw=>by simp) rfl rfl ?_;intro ne;refine wr ?_;refine VR.iF rfl rfl rfl rfl ?_;refine wr ?_;refine zr (s:=jD a X) (h:=?_);intro _ _;refine wr ?_;refine VO.gF rfl rfl rfl (gx zO) ?_;refine wr ?_;refine zr (s:=jX a X) (h:=?_);intro _ _;refine wr ?_;refine VR.aK rfl rfl (gx zO) ?_;refine wr ?_;refine zr (s:=b _) (h:=?_);intro _ _;refine wr ?_;refine zr (s:=jX a X) (h:=?_);intro _ _;refine wr ?_;refine VR.aK rfl rfl (by simp;omega) ?_;refine wr ?_;refine zr (s:=La a r X l Y k t j o i y u fr q g c) (h:=?_);intro D' e;refine wr ?_;refine VF.aR (H':=Row ne 40 [i6 0]::Row a 94 (X.put k 2 0).told.cells::dz (X.put k 2 0)::de r Y (bU (X.put k 2 0)) (al X.b D'::R)) ae.re ?_;exact VF.kU (.inl rfl) (λ_ _=>by simp) gp D' rfl (aL.leaf ah rfl rfl (.head _) rfl) e rfl (ae.drop ae.refl)
end Go.Proofs.YtldolcbbmnmjoaaGreat
namespace Go.Proofs.YtldolcbbmnmjoaaGreat
open Go.RowKit Go.Sl
attribute [local irreducible] Sl.Own
theorem zn{W:World}{R:List ab}{D:aw}{K:Kd}{i:ak}{n c0:Nat}{d:List UInt8}{x:Option Addr×Nat}(b:Nat)(j:Bq D n K c0)(q:c0<=900000000)(k a:Nat)(r:K k=some i)(o:a<i.last.length)(f:d.length=128):
  aq W Tryz.prog 49 [ip b,ii k,ii a,.slice x.1 128 x.2] (al b D::Sl.Own 5 1 (.slice x.1 128 x.2) 128 (bytes d)::R) (β:=aw) (λc=>Bq c n (ez K k (i.write a d)) (c0+1)) (λ_=>i6 0) (λc=>al b c::R):=by
 refine G3 (p:=x.1=none->128=0) (λw s=>s.bn (.tail _ (.head _))) λg=>?_;obtain⟨c,m,h⟩:=j.write r o f;have e:=lT (W:=W) (cap:=x.2) (R:=Sl.Own 5 1 (.slice x.1 128 x.2) 128 (bytes d)::R) b D k ((a:Nat):Int) (l:=d) (ao:=x.1) (RB (oK j.cap k) zO) (.inr (by rw[f];exact aV.own (aQ _) zm (by simp[f]) g));rw[m,f]at e;exact aq.mono e (λ_=>c) (λ_ _=>h) (λ_ _=>rfl) (λ_ _=>ae.re)
end Go.Proofs.YtldolcbbmnmjoaaGreat
namespace Go.Proofs.YtldolcbbmnmjoaaGreat
open Go.RowKit Go.Sl
attribute [local irreducible] Sl.Own
section
variable{D:aw}{K:Kd}{n c0 m base:Nat}{kj:ak}{v:bT}{x:fY}
theorem jr_syncd(a:Bq2 D n K c0)(b:K m=some kj)(f:v.slot=(m:Int))(h:dt v kj base x):
    (∃D' kj',qE (v,D)=(0,({v with sure:=true},D'))/\Bq2 D' n (ez K m kj') c0/\dt {v with sure:=true} kj' base (x.jl 3 [])/\(∀s,Sr kj 0 s->Sr kj' 0 s)/\Did D D' (if v.sure then 0 else 1))\/
    ∃v' D',qE (v,D)=(50,(v',D'))/\Bq1 D 1 D' n K c0:=by
  cases c:v.sure with
  |true=>
    have e:{v with sure:=true}=v:=by cases v;dsimp only at c;subst c;rfl
    exact .inl ⟨D,kj,by rw[e,Ks c],by rw[pz b];exact a,by rw[e];exact F4 h c,λs q=>q,.refl D⟩
  |false=>
    rcases RY (a.pw b) f h.MM c with⟨d,f1,f2,f3⟩|⟨_,d,f1,f2⟩
    · exact .inl ⟨d,_,f1,a.Pa f2 (ak.fU (a.is m kj b).2.2) (c7 _) (eI _) f3,JG h c,λs q=>q.settle _,f3.did⟩
    · have:=a.dq0 f2 (a.is m kj b).2.2 (a.Rw b) (eI _)
      rw[pz b]at this
      exact .inr ⟨_,d,f1,this⟩
theorem Sr.Cu{k:ak}{s:List UInt8}(h:Sr k 0 s):∀{L:List (Nat×List UInt8)},(∀p∈L,p.1≠0)->Sr (k.writes L) 0 s:=by
 intro L;induction L generalizing k with
 |nil=>intro _;rw[iB];exact h
 |cons p L c=>intro a;rw[show p=(p.1,p.2)from rfl,<-kP];exact c (h.write λe=>lcs e (a p (.head _))) λq b=>a q (.tail _ b)
theorem rz{k:ak}{L:List (Nat×List UInt8)}(h:k.ok)(a:∀p∈L,p.1<k.last.length/\p.2.length=128):(k.writes L).ok:=⟨h.last,λc b=>(l0.1 b).elim (h.cache c) (a c),h.size⟩
theorem DH{e:Nat}(a:Bq D n K c0)(f:K m=some kj)(o:v.slot=(m:Int))(h:dt v kj base x)(g:v.sure=true)(c:dJ e v.next):
  ∃D' kj',eO (v,D) e=(0,({v with epoch:=e,tail:=v.head,used:=0,log:=none},D'))/\Bq D' n (ez K m kj') c0/\dt {v with epoch:=e,tail:=v.head,used:=0,log:=none} kj' v.next ⟨[],0,none⟩/\∀s,Sr kj 0 s->Sr kj' 0 s:=by
 have l:=h.size;have r:=h.len;have k:v.head<=2047:=by have:=qX (v.tail+v.used) (show 0<v.size by omega);unfold bT.head;omega
 have d:(bJ.mk e v.next v.head).aX:=⟨c,by simp only;omega,by simp only;omega⟩;rcases PO (e:=e) (a.pw f) o h.MM g d zO with⟨i,f1,f2,f3⟩|⟨j,_⟩
 · exact⟨i,_,f1,a.Pa f2 (ak.fU (rz (a.is m kj f).2.2 λp b=>by rw[ju.1 b];exact⟨by dsimp only;omega,by dsimp only;rw[qL d];exact fm _ _ _ _ (nu _)⟩)) (c7 _) (eI _) f3,F3 h g c,λs q=>(q.Cu (L:=[_]) λp b=>by rw[ju.1 b];exact Nat.one_ne_zero).settle _⟩
 · exact lcs a.c8 j
end
abbrev bT.rr(v:bT):bT:={v with sure:=true}
abbrev eA.done(Y:eA):eA:={Y with wo:=none,wc:=0,wl:=[]}
abbrev trJ(m e:Nat):List Value:=[ii (if e=0 then 0 else(m:Int)),i6 e]
theorem rjournalE_ok{W:World}{R:List ab}(r:Nat)(Y:eA)(e:Nat):az W Tryz.prog 172 [ip r,i6 e] (Row r 128 Y.cells::R) (.agg (trJ Y.m e).toArray) (Row r 128 Y.cells::R):=by
 refine ze Tryz.func172 Tryz.ntmps172 ?_;refine zq ?_;refine ay.aB sb_172 rfl ?_;intro a;refine zr (s:=l8 (Y.m:Int) e) (h:=?_);intro _ _;refine zS (trJ Y.m e) ?_;exact VE.results1 (.inl rfl) () rfl (aL.agg (vs:=trJ Y.m e) ah rfl rfl zm rfl rfl) trivial rfl ae.re
theorem l7{W:World}{R:List ab}(r:Nat)(Y:eA):az W Tryz.prog 172 [ip r,i6 0] (Row r 128 Y.cells::R) (.agg cD.toArray) (Row r 128 Y.cells::R):=rjournalE_ok r Y 0
structure kq(Y:eA)(fr:List Int)(K:Kd):Prop where
  len:fr.length=Y.m
  is:∀k row,k<Y.m->row<Y.s*Y.c->¬gB fr k row->∃kd,K k=some kd/\1+Y.s*Y.c<=kd.last.length
  of:∀p∈Y.wl,p.Of Y
  mx:Y.wl.length<=800000
  nil:Y.wl=[]->Y.wo=none/\Y.wc=0
theorem kq.ez{Y:eA}{fr:List Int}{K:Kd}{d:ak}(h:kq Y fr K):kq Y fr (ez K Y.m d):=⟨h.len,λk row a c b=>by rw[dH _ _ (Nat.ne_of_lt a)];exact h.is k row a c b,h.of,h.mx,h.nil⟩
theorem kq.none{Y:eA}{fr:List Int}{K:Kd}(h:kq Y fr K)(a:Nat):sI fr Y.wl Y.m a=none:=by
  unfold sI;split
  · rfl
  · cases e:cq Y.wl.reverse (Y.m:Int) ((a-1:Nat):Int)with
    |none=>rfl
    |some d=>
      obtain⟨p,b,c,_⟩:=jP e
      have:=(h.of p (HH.1 b)).m
      omega
theorem kq.wrote{Y:eA}{fr:List Int}{K b:Kd}(h:kq Y fr K)(j:fA (sI fr Y.wl) K b):kq Y.done fr b:=⟨h.len,λk row d i c=>by
 obtain⟨o,e,f⟩:=h.is k row d i c;obtain⟨l,e',a⟩:=(j k).2 o e;exact⟨l,e',by rw[a.len];exact f⟩,λp g=>(by cases g),c7 _,λ_=>⟨rfl,rfl⟩⟩
abbrev eA.dn(Y:eA)(e:Nat):eA:=if e=0 then Y.done else Y
theorem rplacedd_ok{W:World}{R:List ab}{D:aw}{K:Kd}{n c0:Nat}(r:Nat)(Y:eA)(u:Y.ok)(fr:List Int)(d:kq Y fr K)(z:bq W R Y.wo Y.wl)(t:Bq2 D n K c0)(j:c0<=1000000):
  aq W Tryz.prog 171 [ip r] (de r Y fr (al Y.b D::R)) (β:=PlcY) (PlcOk D n K (c0+Y.wl.length) Y.m fr Y.wl) (λy=>.agg (trT y.s y.e).toArray) (λy=>de r (Y.dn y.e) fr (al Y.b y.D::R)):=by
 refine ze Tryz.func171 Tryz.ntmps171 ?_;refine zq ?_;refine ay.aB sb_172 rfl ?_;intro A;refine w ?_;refine zk ?_ ?_<;>intro f
 ·
  have b:Y.wl=[]:=te.1 (by simpa using f);clear f;have g:Y.done=Y:=by obtain⟨p,q⟩:=d.nil b;cases Y;dsimp only at b p q;subst b p q;rfl
  refine w ?_;refine VO.pure rfl rfl (af.build sb_172 rfl (show aC _ _ _=some cD by simp[aC,bR,Value.cells])) rfl ?_;refine zS cD ?_;exact VE.results1 (.inl rfl) (⟨D,K,0,0⟩:PlcY) rfl (aL.agg (vs:=cD) ah rfl rfl zm rfl rfl) (.inl ⟨rfl,rfl,by rw[b];exact t,fA.refl λi a=>by rw[b];unfold sI;split<;>rfl,0,.refl D,c7 _,λ_ _=>by rw[b];rfl⟩) rfl (by show ae W _ (de r Y.done fr (al Y.b D::R));rw[g];exact ae.re)
 have b:Y.wl≠[]:=λe=>by rw[e]at f;simp at f
 clear f;refine zr (s:=rplacd_ok (R:=Row A 172 cD::R) (cap:=Y.wc) r Y u fr d.len d.is t Y.wl (z.aR (ae.drop ae.refl)) d.of d.mx j) (h:=?_);rintro⟨l,o,en,c⟩ k;dsimp only;refine zw ?_;refine ay.aB sb_172 rfl ?_;intro B;refine zS (trT c en) ?_;rcases(show en=0\/en=50 from k.elim (λh=>.inl h.1) (λh=>.inr h.1))with rfl|rfl
 ·
  refine zS (trT c 0) ?_;exact VE.results1 (.inl rfl) (⟨l,o,0,c⟩:PlcY) rfl (aL.agg (vs:=trT c 0) ah rfl rfl zm rfl rfl) k rfl ae.re
 ·
  refine zS (trT c 50) ?_;exact VE.results1 (.inl rfl) (⟨l,o,50,c⟩:PlcY) rfl (aL.agg (vs:=trT c 50) ah rfl rfl zm rfl rfl) k rfl ae.re
theorem rfinishd_ok{W:World}{R:List ab}{D:aw}{K:Kd}{n c0:Nat}{wp:Nat}(r:Nat)(Y:eA)(d:Y.ok)(v:bT)(a:Y.w=ik wp)(f:v.sure=true)(fr:List Int)(c:kq Y fr K)(g:bq W R Y.wo Y.wl)(e:Bq2 D n K c0)(b:c0<=1000000):
  aq W Tryz.prog 109 [ip r] (de r Y fr (bz wp Y.b v::al Y.b D::R)) (β:=PlcY) (PlcOk D n K (c0+Y.wl.length) Y.m fr Y.wl) (λy=>.agg (trT y.s y.e).toArray) (λy=>de r (Y.dn y.e) fr (bz wp Y.b v::al Y.b y.D::R)):=by
 refine ze Tryz.func109 Tryz.ntmps109 ?_;refine zq ?_;refine ay.aB sb_172 rfl ?_;intro j;refine w ?_;refine VO.re 8 (.bool false) rfl (by rw[a];rfl) ?_;refine w ?_;refine VO.re 12 (ip wp) rfl (by rw[a]) ?_;refine zr (s:=GP wp Y.b v) (h:=?_);intro _ _;rw[f];refine zr (s:=rplacedd_ok (R:=bz wp Y.b v::Row j 172 cD::R) r Y d fr c (g.aR (ae.drop (ae.drop ae.refl))) e b) (h:=?_);intro y i;refine zS (trT y.s y.e) ?_;exact VE.results1 (.inl rfl) y rfl (aL.agg (vs:=trT y.s y.e) ah rfl rfl zm rfl rfl) i rfl ae.re
structure SetY where
  D:aw
  K:Kd
  v:bT
  e:Nat
  s:Nat
def SetOk(D:aw)(n:Nat)(K:Kd)(c0:Nat)(Y:eA)(fr:List Int)(v:bT)(kj:ak)(base:Nat)(x:fY)(y:SetY):Prop:=
  (y.e=0/\y.s=0/\y.v=v.rr/\Bq2 y.D n y.K (c0+Y.wl.length)/\∃kj',y.K Y.m=some kj'/\dt v.rr kj' base (x.jl 3 [])/\(∀s,Sr kj 0 s->Sr kj' 0 s)/\fA (sI fr Y.wl) (ez K Y.m kj') y.K/\∃N,Did D y.D N/\((Y.wl.map aj.place).Nodup->(∀k row,k<Y.m->¬gB fr k row)->N=(if v.sure then 0 else 1)+Y.wl.length))\/
  (y.e=50/\y.K=K/\Bq1 D 1 y.D n K c0)\/
  (y.e=50/\y.v=v.rr/\∃kj',y.K Y.m=some kj'/\dt v.rr kj' base (x.jl 3 [])/\(∀s,Sr kj 0 s->Sr kj' 0 s)/\Bq1 D ((if v.sure then 0 else 1)+Y.wl.length) y.D n y.K (c0+Y.wl.length)/\(((if v.sure then 0 else 1:Nat):Int)<=D.c8)/\∃f,(∀i a d,f i a=some d->sI fr Y.wl i a=some d)/\fA f (ez K Y.m kj') y.K)
theorem rsettled_ok{W:World}{R:List ab}{D:aw}{K:Kd}{n c0 base:Nat}{wp:Nat}{kj:ak}{v:bT}{x:fY}(r:Nat)(Y:eA)(P:Y.ok)(i:Y.w=ik wp)(fr:List Int)(A:kq Y fr K)(U:bq W R Y.wo Y.wl)(C:Bq2 D n K c0)(B:c0<=1000000)(Q:K Y.m=some kj)(T:v.slot=(Y.m:Int))(S:dt v kj base x):
  aq W Tryz.prog 120 [ip r] (de r Y fr (bz wp Y.b v::al Y.b D::R)) (β:=SetY) (SetOk D n K c0 Y fr v kj base x) (λy=>.agg (trT y.s y.e).toArray) (λy=>de r (Y.dn y.e) fr (bz wp Y.b y.v::al Y.b y.D::R)):=by
 obtain⟨en,v1,D1,I,O⟩:∃en:Nat,∃v1 D1,qE (v,D)=((en:Int),(v1,D1))/\((en=0/\v1=v.rr/\∃kj',Bq2 D1 n (ez K Y.m kj') c0/\dt v.rr kj' base (x.jl 3 [])/\(∀s,Sr kj 0 s->Sr kj' 0 s)/\Did D D1 (if v.sure then 0 else 1))\/(en=50/\Bq1 D 1 D1 n K c0)):=by
  rcases jr_syncd C Q T S with⟨D',kj',e,g⟩|⟨v',D',e,g⟩
  · exact⟨0,_,_,e,.inl ⟨rfl,rfl,kj',g⟩⟩
  · exact⟨50,_,_,e,.inr ⟨rfl,g⟩⟩
 have p:=λR=>GQ (W:=W) (R:=R) (D:=D) wp Y.b v;rw[I]at p;refine ze Tryz.func120 Tryz.ntmps120 ?_;refine zq ?_;refine ay.aB sb_172 rfl ?_;intro nt;refine w ?_;refine VC.aK rfl rfl (by rw[i];rfl) ?_;refine w ?_;refine VO.re 14 (ip wp) rfl (by rw[i]) ?_;refine zr (s:=p _) (h:=?_);intro _ _;refine zr (s:=rjournalE_ok r Y en) (h:=?_);intro _ _;refine zw ?_;refine ay.aB sb_172 rfl ?_;intro Z;refine zS (trJ Y.m en) ?_;rcases O with⟨rfl,rfl,kj',E,l,o,c⟩|⟨rfl,c⟩
 rotate_left
 ·
  refine zS (trT Y.m 50) ?_;exact VE.results1 (.inl rfl) (⟨D1,K,v1,50,Y.m⟩:SetY) rfl (aL.agg (vs:=trT Y.m 50) ah rfl rfl zm rfl rfl) (.inr (.inl ⟨rfl,rfl,c⟩)) rfl ae.re
 refine zr (s:=rfinishd_ok (R:=Row Z 172 cD::Row nt 172 cD::R) r Y P v.rr i rfl fr A.ez (U.aR (ae.drop (ae.drop ae.refl))) E B) (h:=?_);rintro⟨G,H,en,F⟩ V;refine zS (trT F en) ?_;refine VE.results1 (.inl rfl) (⟨G,H,v.rr,en,F⟩:SetY) rfl (aL.agg (vs:=trT F en) ah rfl rfl zm rfl rfl) ?_ rfl ae.re;rcases V with⟨z,t,u,k,N,L,h6,M⟩|⟨z,t,f,u,k⟩
 ·
  obtain⟨X,j,g2⟩:=(k Y.m).2 kj' (eZ _ _ _);rw[g2.same λa=>A.none a]at j;exact .inl ⟨z,t,rfl,u,kj',j,l,o,k,_,c.trans L,λa b=>by rw[M a b]⟩
 ·
  obtain⟨X,j,g2⟩:=(k Y.m).2 kj' (eZ _ _ _);rw[g2.same λa=>by cases q:f Y.m a with|none=>rfl|some d=>have:=u _ _ _ q;rw[A.none a]at this;cases this]at j;have J:0<=D.c8:=by
   have:=t.lo;by_cases q:D.c8=-1
   · have:=c.calm q;omega
   · have:=C.c8;omega
  obtain⟨b1,b2⟩:=c.tr J;exact .inr (.inr ⟨z,rfl,kj',j,l,o,by have:=t.after c C.c8.1;exact this,by omega,f,u,k⟩)
theorem rf{W:World}{R:List ab}{D:aw}{K:Kd}{n c0 base:Nat}{wp:Nat}{kj:ak}{v:bT}{x:fY}(r:Nat)(Y:eA)(k:Y.ok)(d:Y.w=ik wp)(fr:List Int)(j:kq Y fr K)(q:bq W R Y.wo Y.wl)(b:Bq D n K c0)(c:c0<=1000000)(l:K Y.m=some kj)(p:v.slot=(Y.m:Int))(o:dt v kj base x):
  aq W Tryz.prog 120 [ip r] (de r Y fr (bz wp Y.b v::al Y.b D::R)) (β:=aw×Kd) (λy=>Bq y.1 n y.2 (c0+Y.wl.length)/\∃kj',y.2 Y.m=some kj'/\dt v.rr kj' base (x.jl 3 [])/\(∀s,Sr kj 0 s->Sr kj' 0 s)/\fA (sI fr Y.wl) (ez K Y.m kj') y.2) (λ_=>.agg cD.toArray) (λy=>de r Y.done fr (bz wp Y.b v.rr::al Y.b y.1::R)):=by
 have a:∀y,SetOk D n K c0 Y fr v kj base x y->(y.e=0/\y.s=0/\y.v=v.rr)/\Bq y.D n y.K (c0+Y.wl.length)/\∃kj',y.K Y.m=some kj'/\dt v.rr kj' base (x.jl 3 [])/\(∀s,Sr kj 0 s->Sr kj' 0 s)/\fA (sI fr Y.wl) (ez K Y.m kj') y.K:=by
  rintro y (⟨e,f,g,i,kj',g1,g2,g3,g4,N,g5,-⟩|⟨-,-,h⟩|⟨-,-,kj',-,-,-,h,-⟩)
  · exact⟨⟨e,f,g⟩,i.bq1 (g5.calm b.c8),kj',g1,g2,g3,g4⟩
  · have:=h.lo;have:=b.c8;omega
  · have:=h.lo;have:=b.c8;omega
 refine aq.mono (rsettled_ok r Y k d fr j q b.bq0 c l p o) (λy=>(y.D,y.K)) (λy h=>(a y h).2) (λy h=>by rw[(a y h).1.1,(a y h).1.2.1];rfl) λy h=>?_;rw[(a y h).1.1,(a y h).1.2.2];exact ae.refl
end Go.Proofs.YtldolcbbmnmjoaaGreat
namespace Go.Proofs.YtldolcbbmnmjoaaGreat
open Go.RowKit Go.Sl
attribute [local irreducible] Sl.Own
theorem TI:cH Tryz.prog 257 175 .nilFunc 1 8:=⟨by kernel_rfl,by kernel_rfl,rfl,by simp[Value.cells,Value.oneCell']⟩
abbrev E8(g:FuncId)(r:Nat):Value:= .func (.func g) #[ip r] #[]
abbrev bT.emp(v:bT):bT:={v.rr with tail:=v.head,used:=0,log:=none}
def lQ(fr:List Int)(Y:eA)(K b:Kd)(d kj':ak):Prop:=∃c a,fA (sI fr Y.wl) (ez K Y.m c) a/\b=ez (fO fr Y.m a) Y.m kj'/\∀s,Sr d 0 s->Sr kj' 0 s
theorem tH{W:World}{R:List ab}{D:aw}{K:Kd}{n c0 base:Nat}{wp:Nat}{A:ak}{v:bT}{x:fY}(r:Nat)(Y:eA)(g:Y.ok)(j:Y.w=ik wp)(fr:List Int)(C:kq Y fr K)(hw:bq W R Y.wo Y.wl)(hq:Bq D n K c0)(F:c0<=1000000)(G:K Y.m=some A)(O:v.slot=(Y.m:Int))(Z:dt v A base x)(U:1<=base)(E:dJ v.epoch v.next):
  aq W Tryz.prog 111 [ip r] (de r Y fr (bz wp Y.b v::al Y.b D::R)) (β:=aw×Kd) (λy=>Bq y.1 n y.2 (c0+Y.wl.length)/\∃kj',y.2 Y.m=some kj'/\dt v.emp kj' v.next ⟨[],0,none⟩/\lQ fr Y K y.2 A kj') (λ_=>.agg cD.toArray) (λy=>de r Y.done fr (bz wp Y.b v.emp::al Y.b y.1::R)):=by
 have N:=C.mx;have S:=g.m;have T:=g.s;have Q:=g.c;have t:0<Y.s*Y.c:=Nat.mul_pos zO zO;have d:∀u∈[E8 120 r,E8 134 r],u.oneCell'=true:=by simp[Value.oneCell']
 refine ze Tryz.func111 Tryz.ntmps111 ?_;refine zq ?_;refine ay.aB sb_172 rfl ?_;intro l;refine w ?_;refine VO.pure rfl rfl (af.cm rfl) rfl ?_;refine w ?_;refine VO.pure rfl rfl (af.cm rfl) rfl ?_;refine w ?_;refine zq ?_;refine ay.bP TI rfl rfl (by simp[Value.oneCell']) (by decide) rfl ?_;intro nb;refine w ?_
 refine VC.loop (α:=Nat×aw×Kd) (λy=>y.1<=2/\(if y.1=0 then y.2=(D,K)else Bq y.2.1 n y.2.2 (c0+Y.wl.length)/\∃kj' b,b Y.m=some kj'/\dt v.rr kj' base (x.jl 3 [])/\(∀s,Sr A 0 s->Sr kj' 0 s)/\fA (sI fr Y.wl) (ez K Y.m kj') b/\(y.2.2=if y.1=1 then b else fO fr Y.m b)))
  (λy=>Row nb 175 [E8 120 r,E8 134 r]::Row l 172 cD::de r (if y.1=0 then Y else Y.done) fr (bz wp Y.b (if y.1=0 then v else v.rr)::al Y.b y.2.1::R))
  (λy=>[(0,ip r),(2,ip l),(10,.slice (ik nb) 2 2),(11,ii 2),(12,ii y.1)]) (λy=>2-y.1) rfl (0,D,K) ⟨c7 _,by rw[lam rfl]⟩ ae.re ⟨rfl,rfl,rfl,rfl,rfl,trivial⟩ ?_
 rintro⟨i,D',L⟩ ⟨X,f⟩;dsimp only at X f⊢;rcases(show i=0\/i=1\/i=2 by omega)with rfl|rfl|rfl
 ·
  rw[lam rfl]at f;injection f with P B;subst P B;rw[lam rfl,lam rfl];have hr1:aV W (Row nb 175 [E8 120 r,E8 134 r]::Row l 172 cD::de r Y fr (bz wp Y.b v::al Y.b D'::R)) 1 (ik nb) 2 [E8 120 r,E8 134 r]:=aV.row d (.head _) rfl;refine zw ?_;refine ay.gS rfl rfl (λ_ _=>by simp) (rf (R:=Row nb 175 [E8 120 r,E8 134 r]::Row l 172 cD::R) r Y g j fr C (hw.aR (ae.drop (ae.drop ae.refl))) hq F G O Z) ae.re rfl ?_;rintro⟨m,M⟩ ⟨a,kj',g1,g2,g3,g4⟩;refine zw ?_;refine ay.aB sb_172 rfl ?_;intro n5;refine zS cD ?_;exact VE.round (1,m,M) ⟨Nat.le_succ 1,by rw[aE Nat.one_ne_zero];exact⟨a,kj',M,g1,g2,g3,g4,by rw[lam rfl]⟩⟩ (by dsimp only;omega) ⟨rfl,rfl,rfl,rfl,b7 rfl rfl,trivial⟩ ae.re
 ·
  rw[aE (by decide)]at f;obtain⟨c,kj',b,g1,g2,g3,g4,g5⟩:=f;rw[lam rfl]at g5;subst g5;rw[aE (by decide),aE (by decide)];have hr1:aV W (Row nb 175 [E8 120 r,E8 134 r]::Row l 172 cD::de r Y.done fr (bz wp Y.b v.rr::al Y.b D'::R)) 1 (ik nb) 2 [E8 120 r,E8 134 r]:=aV.row d (.head _) rfl;have o:=C.ez.wrote g4;refine zw ?_;refine ay.gS rfl rfl (λ_ _=>by simp) (uF (R:=bz wp Y.b v.rr::Row nb 175 [E8 120 r,E8 134 r]::Row l 172 cD::R) r Y.done ⟨g.m,g.c,g.s⟩ fr o.len (λk G V=>by obtain⟨kd,e,_⟩:=o.is k 0 G t V;rw[e];rfl) c) ae.re rfl ?_;intro m a;refine zw ?_;refine ay.aB sb_172 rfl ?_;intro n5;refine zS cD ?_;exact VE.round (2,m,fO fr Y.m L) ⟨eI 2,by rw[aE (by simp)];exact⟨a,kj',L,g1,g2,g3,g4,by rw[aE (by simp)]⟩⟩ (by dsimp only;omega) ⟨rfl,rfl,rfl,rfl,b7 rfl rfl,trivial⟩ ae.re
 rw[aE (by decide)]at f;obtain⟨c,kj',b,g1,g2,g3,g4,g5⟩:=f;rw[aE (by decide)]at g5;subst g5;rw[aE (by decide),aE (by decide)];have H:fO fr Y.m b Y.m=some kj':=by unfold fO;rw[aE (λe=>Nat.lt_irrefl _ e.1)];exact g1
 obtain⟨m,z,B,a,I,J⟩:=DH (v:=v.rr) c H O g2 rfl E;have p:=λR=>y3 (W:=W) (R:=R) (D:=D') (c0:=c0+Y.wl.length) wp Y.b v.rr (g2.SJ E.1 E.2.2 U) c.cap zO;rw[B]at p;refine w ?_;refine VC.aK rfl rfl (by rw[j];rfl) ?_;refine w ?_;refine VO.re 33 (ip wp) rfl (by rw[j]) ?_;refine zr (s:=p _) (h:=?_);intro _ _;refine zr (s:=l7 r Y.done) (h:=?_);intro _ _;refine zS cD ?_;exact VE.results1 (.inl rfl) (m,ez (fO fr Y.m b) Y.m z) rfl (aL.agg (vs:=cD) ah rfl rfl zm rfl rfl) ⟨a,z,eZ _ _ _,I,kj',b,g4,rfl,λs q=>J s (g3 s q)⟩ rfl ae.re
end Go.Proofs.YtldolcbbmnmjoaaGreat
namespace Go.Proofs.YtldolcbbmnmjoaaGreat
open Go.RowKit Go.Sl
attribute [local irreducible] Sl.Own
section
variable{K K' K'':Kd}{m:Nat}
theorem dM(k:ak)(f:Nat->Bool):(k.settle f).last.length=k.last.length:=by unfold ak.settle;rw[iJ]
theorem oU{v:bT}{k:ak}{base:Nat}{x:fY}(h:dt v k base x):0<k.last.length:=by have:=h.len;omega
end
abbrev A0(wp b:Nat)(v:bT)(D:aw)(R:List ab):List ab:=bz wp b v::al b D::R
section
variable{W:World}{R:List ab}{D:aw}{K:Kd}{n c0 base:Nat}{wp:Nat}{kj:ak}{v:bT}{x:fY}
theorem Ip(a r:Nat)(X:aY)(b:X.ro=false)(q:X.r=ik r)(Y:eA)(i:Y.ok)(f:Y.w=ik wp)(fr:List Int)(g:kq Y fr K)(u:bq W R Y.wo Y.wl)(p:Bq D n K c0)(c:c0<=1000000)(l:K Y.m=some kj)(t:v.slot=(Y.m:Int))(o:dt v kj base x)(j:1<=base)(k:dJ v.epoch v.next):
  aq W Tryz.prog 59 [ip a] (Row a 94 X.cells::de r Y fr (A0 wp Y.b v D R)) (β:=aw×Kd) (λy=>Bq y.1 n y.2 (c0+Y.wl.length)/\∃kj',y.2 Y.m=some kj'/\dt v.emp kj' v.next ⟨[],0,none⟩/\lQ fr Y K y.2 kj kj') (λ_=>i6 0) (λy=>Row a 94 X.cells::de r Y.done fr (A0 wp Y.b v.emp y.1 R)):=by
 (refine aq.oL Tryz.func59 Tryz.ntmps59 rfl rfl ?_);refine wr ?_;refine zq ?_;refine ay.alloc (z:=(i6 0)) (λw=>by simp) rfl rfl ?_;intro ne;refine wr ?_;refine VR.iF rfl rfl rfl rfl ?_;refine wr ?_;refine zr (s:=jD a X) (h:=?_);intro _ _;refine wr ?_;refine VR.aK rfl rfl (b) ?_;refine wr ?_;refine VO.re 13 (ip r) rfl (by rw[q]) ?_;refine VO.pure rfl rfl (af.cm rfl) rfl ?_;refine wr ?_;have d:=tH (W:=W) (R:=Row a 94 X.cells::Row ne 40 [i6 0]::R) r Y i f fr g (u.aR (ae.drop (ae.drop ae.refl))) p c l t o j k;have e:=rI (bnd:=#[ip r]) (cap:=#[]) (H:=de r Y fr (A0 wp Y.b v D (Row ne 40 [i6 0]::R))) (G:=λy:aw×Kd=>de r Y.done fr (A0 wp Y.b v.emp y.1 (Row ne 40 [i6 0]::R))) a X b (λ_ _=>by simp) (fX ae.re (aq.mono d (λy=>y) (λ_ h=>h) (λ_ _=>rfl) (λ_ _=>ae.re)));refine zr (s:=e) (h:=?_);intro y A;refine wr ?_;refine VF.aR (H':=Row ne 40 [i6 0]::Row a 94 X.cells::de r Y.done fr (A0 wp Y.b v.emp y.1 R)) ae.re ?_;exact VF.kU (.inl rfl) (λ_ _=>by simp) gp y rfl (aL.leaf ah rfl rfl (.head _) rfl) A rfl (ae.drop ae.refl)
end
end Go.Proofs.YtldolcbbmnmjoaaGreat
namespace Go.Proofs.YtldolcbbmnmjoaaGreat
open Go.RowKit Go.Sl
attribute [local irreducible] Sl.Own
abbrev D8(m:Nat):List Value:=List.replicate m (.bool false)
abbrev tq(l:List Nat):List Value:=l.map λn=>ii (n:Nat)
theorem D7(l:List Nat):∀u∈tq l,u.oneCell'=true:=by
 intro u a;obtain⟨n,_,rfl⟩:=fG.1 a;rfl
structure Cy where
  m:Nat
  c:Nat
  s:Nat
  da:Nat
  po:Option Addr
  pc:Nat
  l:List aj
  par:Nat
abbrev Cy.cells(x:Cy):List Value:=[ii x.m,ii x.c,ii x.s,.slice (ik x.da) x.m x.m,.slice x.po x.l.length x.pc,ii x.par]
structure fZ(m c s r:Nat)(l:List aj):Prop where
  ne:l≠[]
  row:r<s*c
  of:∀i (h:i<l.length),0<=l[i].av/\l[i].av<m/\l[i].row=r/\l[i].av≠(eD m (r/c):Nat)/\l[i].d.data.length=128
  inc:∀i (h:i+1<l.length),(l[i]'(Nat.lt_of_succ_lt h)).av<l[i+1].av
theorem fZ.low{m c s r:Nat}{l:List aj}(h:fZ m c s r l):∀i (a:i<l.length),(i:Int)<=l[i].av/\(((eD m (r/c):Nat):Int)<l[i].av->(i:Int)+1<=l[i].av)
  |0,a=>by have:=h.of 0 a;omega
  |i+1,a=>by
    have:=h.low i zO;have:=h.of i zO;have:=h.of (i+1) a;have:=h.inc i a;omega
theorem fZ.mx{m c s r:Nat}{l:List aj}(h:fZ m c s r l)(a:3<=m):l.length+1<=m:=by
 have f:0<l.length:=CD.2 h.ne;have b:=h.low (l.length-1) zO;have d:=h.of (l.length-1) zO;have e:=jV a (r/c);omega
section
variable{W:World}{R:List ab}
theorem Mr(f:aj->Bool)(l:List aj):decide (0<=BB f l)=l.any f:=by
 rw[<-List.findIdx?_isSome];unfold BB;cases List.findIdx? f l with
 |none=>rfl
 |some i=>exact ky (Int.natCast_nonneg i)
theorem Ee{g:FuncId}{cp:Array Value}{ao:Option Addr}{cap:Nat}{l:List aj}(f:aj->Bool)(b:∀a w,(callFunc g a).run Tryz.prog w= .ok (.enter g a) w)(e:aV W R 3 ao l.length (bg l))(d:l.length<=1000000)
  (c:∀p∈l,az W Tryz.prog g (.agg p.cells.toArray::cp.toList) R (.bool (f p)) R):az W Tryz.prog 350 [.slice ao l.length cap,.func (.func g) #[] cp] R (.bool (l.any f)) R:=by
 (refine aq.enter Tryz.func350 Tryz.ntmps350 rfl rfl ?_);refine zt (s:=HV f b e d c) (h:=?_);intro _ _;refine w ?_;exact VE.ax rfl (by congr 1;exact Mr f l) ae.refl
theorem Jo(a:Nat)(k:Int)(p:aj):az W Tryz.prog 369 [.agg p.cells.toArray,ip a] (Row a 3 [ii k]::R) (.bool (p.av==k)) (Row a 3 [ii k]::R):=by
 refine ze Tryz.func369 Tryz.ntmps369 ?_;refine zj λ_=>?_;refine w ?_;exact VE.ax rfl rfl (ae.drop ae.refl)
theorem Dy(b:Nat)(x:Cy)(k:Int)(d:bq W R x.po x.l)(c:x.l.length<=1000000):az W Tryz.prog 353 [ip b,ii k] (Row b 425 x.cells::R) (.bool (x.l.any λp=>p.av==k)) (Row b 425 x.cells::R):=by
 refine ze Tryz.func353 Tryz.ntmps353 ?_;refine zj λ_=>?_;refine w ?_;rename_i a;refine VO.pure rfl rfl (af.bB rfl) rfl ?_;refine zt (s:=Ee (λp=>p.av==k) (λ_ _=>by simp) (d.gz.aR (ae.drop (ae.drop ae.refl))) c (λp _=>Jo a k p)) (h:=?_);intro _ _;refine w ?_;exact VE.ax rfl rfl (ae.drop ae.refl)
abbrev A9(b a:Nat)(x:Cy)(R:List ab):List ab:=Row b 425 x.cells::Row a 418 [ip b]::R
theorem E0{g:FuncId}{cp:Array Value}(b d:Nat)(x:Cy)(u:x.m<=16)(f:Nat->Bool)(m:∀a w,(callFunc g a).run Tryz.prog w= .ok (.enter g a) w)
    (p:∀(S:ab)(i:Nat),az W Tryz.prog g (ii i::cp.toList) (A9 b d x (S::R)) (.bool (f i)) (A9 b d x (S::R))):
    aq W Tryz.prog 351 [ip b,.func (.func g) #[] cp] (A9 b d x R) (β:=Option Addr×Nat) (λ_=>True) (λy=>.slice y.1 ((List.range x.m).filter f).length y.2)
      (λy=>Sl.Own 3 1 (.slice y.1 ((List.range x.m).filter f).length y.2) ((List.range x.m).filter f).length (tq ((List.range x.m).filter f))::Row b 425 x.cells::R):=by
  refine ze Tryz.func351 Tryz.ntmps351 ?_;refine VC.aR (H':=Sl.Own 3 1 (.slice none 0 0) 0 []::A9 b d x R) (λw r=>r.aZ 3 1) ?_
  refine VC.loop (α:=Nat×(Option Addr×Nat)) (λy=>y.1<=x.m) (λy=>Sl.Own 3 1 (.slice y.2.1 ((List.range y.1).filter f).length y.2.2) ((List.range y.1).filter f).length (tq ((List.range y.1).filter f))::A9 b d x R)
    (λy=>[(0,ip b),(1,.func (.func g) #[] cp),(5,.slice y.2.1 ((List.range y.1).filter f).length y.2.2),(11,ii x.m),(12,ii y.1)]) (λy=>x.m-y.1) rfl (0,none,0) (c7 _) ae.refl ⟨rfl,rfl,rfl,rfl,rfl,trivial⟩ ?_
  rintro⟨i,ao,cap⟩ q;dsimp only at q⊢;obtain⟨L,e⟩:∃L,(List.range i).filter f=L:=⟨_,rfl⟩;have o:L.length<=i:=by rw[<-e];exact RB (uy _ _) (by rw[KN];omega)
  have c:(List.range (i+1)).filter f=if f i then L++[i]else L:=by
    rw[KQ,oS,e];cases h:f i<;>simp[h]
  rw[e];refine w ?_;refine zk ?_ ?_<;>intro l
  · have k:i<x.m:=by have:=cI l;omega
    clear l
    refine zw ?_
    refine ay.call rfl rfl m (p (Sl.Own 3 1 (.slice ao L.length cap) L.length (tq L)) i) ae.re rfl ?_
    intro _ _
    cases j:f i with
    |true=>
      rw[j,lam rfl]at c
      refine w ?_
      refine zq ?_;refine ay.bP st_86 rfl rfl (by simp[Value.oneCell']) (by decide) rfl ?_;intro nb
      refine zq ?_;refine ay.cg st_86 rfl rfl zh zm rfl (by simp[Value.oneCell']) ?_ ?_ rfl ?_
      · simp only[maxLen];omega
      · omega
      intro t s
      refine w ?_
      refine VE.round (i+1,t,s) k (by dsimp only;omega) ⟨rfl,rfl,b7 rfl (by dsimp only;rw[c,c9,ie]),rfl,b7 rfl (by congr 1),trivial⟩ ?_
      dsimp only
      rw[c,c9,ie,show tq (L++[i])=tq L++[ii (i:Nat)]from jv]
      exact ae.re
    |false=>
      rw[j,aE (by simp)]at c
      refine w ?_
      refine VE.round (i+1,ao,cap) k (by dsimp only;omega) ⟨rfl,rfl,b7 rfl (by dsimp only;rw[c]),rfl,b7 rfl (by congr 1),trivial⟩ ?_
      dsimp only
      rw[c]
      exact ae.re
  have n:i=x.m:=by have:=dx l;omega
  clear l;subst n;refine w ?_;exact VE.done (ao,cap) rfl trivial (by dsimp only;rw[e]) (by dsimp only;rw[e];exact ae.re)
def Eo(par:Nat)(M:List Int)(i:Nat):Bool:=((i:Int) != (par:Int))&&!(M.any λp=>p==(i:Int))
def MO(par:Nat)(M:List Int)(i:Nat):Bool:=((i:Int)==(par:Int))||M.any λp=>p==(i:Int)
abbrev Cy.M(x:Cy):List Int:=(x.l.map aj.D).map (·.av)
theorem Cy.any(x:Cy)(k:Int):(x.M.any λp=>p==k)=x.l.any λp=>p.av==k:=by
 rw[List.any_map,List.any_map];rfl
theorem Nc(b a:Nat)(x:Cy)(i:Nat)(e:bq W R x.po x.l)(d:x.l.length<=1000000):az W Tryz.prog 352 [ii i,ip a] (A9 b a x R) (.bool (Eo x.par x.M i)) (A9 b a x R):=by
 refine ze Tryz.func352 Tryz.ntmps352 ?_;unfold Eo;rw[x.any];refine zg ?_ ?_<;>intro c
 ·
  rw[show((i:Int) != (x.par:Int))=true from c];refine zr (s:=Dy (R:=Row a 418 [ip b]::R) b x i (e.aR (ae.drop ae.refl)) d) (h:=?_);intro _ _;refine w ?_;exact VE.ax rfl (by rw[Bool.true_and]) ae.re
 ·
  rw[show((i:Int) != (x.par:Int))=false from c];refine w ?_;exact VE.ax rfl rfl ae.re
theorem PM(b a:Nat)(x:Cy)(i:Nat)(e:bq W R x.po x.l)(d:x.l.length<=1000000):az W Tryz.prog 354 [ii i,ip a] (A9 b a x R) (.bool (MO x.par x.M i)) (A9 b a x R):=by
 refine ze Tryz.func354 Tryz.ntmps354 ?_;unfold MO;rw[x.any];refine zg ?_ ?_<;>intro c
 ·
  rw[show((i:Int)==(x.par:Int))=true from c];refine w ?_;exact VE.ax rfl rfl ae.re
 ·
  rw[show((i:Int)==(x.par:Int))=false from c];refine zr (s:=Dy (R:=Row a 418 [ip b]::R) b x i (e.aR (ae.drop ae.refl)) d) (h:=?_);intro _ _;refine w ?_;exact VE.ax rfl (by rw[Bool.false_or]) ae.re
abbrev jC(y:Option Addr×Nat)(L:List Nat):ab:=Sl.Own 3 1 (.slice y.1 L.length y.2) L.length (tq L)
def lD(m par:Nat)(M:List Int)(md:Nat):List Nat:=if md=3 then(List.range m).filter (Eo par M)else if md=2 then(List.range m).filter (MO par M)else[]
def tG(md:Nat):FuncId:=if md=3 then 321 else if md=2 then 322 else 320
theorem JS(b:Nat)(x:Cy)(md:Nat)(g:x.m<=16)(c:bq W R x.po x.l)(f:x.l.length<=1000000):aq W Tryz.prog (tG md) [ip b] (Row b 425 x.cells::R) (β:=Option Addr×Nat) (λ_=>True) (λy=>.slice y.1 (lD x.m x.par x.M md).length y.2) (λy=>jC y (lD x.m x.par x.M md)::Row b 425 x.cells::R):=by
 unfold tG lD;by_cases e:md=3
 ·
  simp only[lam e];refine ze Tryz.func321 Tryz.ntmps321 ?_;refine zj λ_=>?_;refine w ?_;rename_i a;refine VO.pure rfl rfl (af.bB rfl) rfl ?_;refine zr (s:=E0 b a x g (Eo x.par x.M) (λ_ _=>by simp) (λS i=>Nc b a x i (c.aR (ae.drop ae.refl)) f)) (h:=?_);intro y _;refine w ?_;exact VE.done y rfl trivial rfl ae.refl
 ·
  simp only[aE e];by_cases d:md=2
  ·
   simp only[lam d];refine ze Tryz.func322 Tryz.ntmps322 ?_;refine zj λ_=>?_;refine w ?_;rename_i a;refine VO.pure rfl rfl (af.bB rfl) rfl ?_;refine zr (s:=E0 b a x g (MO x.par x.M) (λ_ _=>by simp) (λS i=>PM b a x i (c.aR (ae.drop ae.refl)) f)) (h:=?_);intro y _;refine w ?_;exact VE.done y rfl trivial rfl ae.refl
  ·
   simp only[aE d];refine ze Tryz.func320 Tryz.ntmps320 ?_;exact VE.done (none,0) rfl trivial rfl λw c=>c.aZ 3 1
theorem IL{b m:Nat}(f:m<=16)(d:aV W R 1 (ik b) m (D8 m)):az W Tryz.prog 355 [.slice (ik b) m m,.bool true] R (ii (-1)) R:=by
 refine ze Tryz.func355 Tryz.ntmps355 ?_;refine VC.loop (α:=Nat) (λi=>i<=m) (λ_=>R) (λi=>[(0,.slice (ik b) m m),(1,.bool true),(7,ii m),(8,ii i)]) (λi=>m-i) rfl 0 (c7 _) ae.refl ⟨rfl,rfl,rfl,rfl,trivial⟩ ?_;intro i e;refine w ?_;refine zk ?_ ?_<;>intro c
 ·
  have a:i<m:=by have:=cI c;omega
  clear c;refine w ?_;refine VO.pure rfl rfl (af.rZ ah rfl rfl d (by rw[Oe,lam a])) rfl ?_;refine w ?_;exact VE.round (i+1) a zO ⟨rfl,rfl,rfl,b7 rfl (by congr 1),trivial⟩ ae.refl
 refine w ?_;exact VE.ax rfl rfl ae.refl
def xw(m k:Nat):Nat:=if m-1-k=0 then 1 else if m-1-k<k+1 then 3 else 2
theorem PG(b:Nat)(x:Cy)(e:3<=x.m/\x.m<=16)(d:aV W R 1 (ik x.da) x.m (D8 x.m))(f:x.l.length+1<=x.m):az W Tryz.prog 323 [ip b] (Row b 425 x.cells::R) (ib (xw x.m x.l.length:Nat)) (Row b 425 x.cells::R):=by
 refine ze Tryz.func323 Tryz.ntmps323 ?_;refine VC.quiet rfl (by kernel_rfl) (by kernel_rfl) ?_;refine w ?_;refine zr (s:=IL (R:=Row b 425 x.cells::R) e.2 (d.aR (ae.drop ae.refl))) (h:=?_);intro _ _;refine w ?_;unfold xw;refine zk ?_ ?_<;>intro a
 ·
  have q:x.m-1-x.l.length=0:=by have:=cI a;omega
  clear a;rw[lam q];refine w ?_;exact VE.ax rfl rfl ae.refl
 have q:¬x.m-1-x.l.length=0:=by have:=dx a;omega
 clear a;rw[aE q];refine w ?_;refine zk ?_ ?_<;>intro a
 ·
  have c:x.m-1-x.l.length<x.l.length+1:=by have:=cI a;omega
  clear a;rw[lam c];refine w ?_;exact VE.ax rfl rfl ae.refl
 have c:¬x.m-1-x.l.length<x.l.length+1:=by have:=dx a;omega
 clear a;rw[aE c];refine w ?_;exact VE.ax rfl rfl ae.refl
theorem RS(p:aj):az W Tryz.prog 349 [.agg p.cells.toArray] R (.bool ((p.d.data.length:Int) != 128)) R:=by
 refine ze Tryz.func349 Tryz.ntmps349 ?_;refine zj λ_=>?_;refine w ?_;exact VE.ax rfl rfl (ae.drop ae.refl)
theorem wK{m c s:Nat}(b:3<=m/\m<=16)(a:1<=c/\c<=16)(d:1<=s/\s<=256):az W Tryz.prog 20 [.agg (cv m c s).toArray] R (i6 0) R:=by
 have h:=jH (W:=W) (R:=R) ⟨m,c,s⟩;rwa [lam ⟨⟨by dsimp only;omega,by dsimp only;omega⟩,⟨by dsimp only;omega,by dsimp only;omega⟩,by dsimp only;omega,by dsimp only;omega⟩]at h
theorem fZ.some{m c s r:Nat}{l:List aj}{a:Option Addr}(h:fZ m c s r l)(b:bq W R a l):∃x,a=some x:=by
 cases a with
 |none=>exact lcs (b.gz.nil rfl) (by have:=CD.2 h.ne;omega)
 |some x=>exact⟨x,rfl⟩
theorem R3{m c s r e pc:Nat}{E:Option Addr}{l:List aj}(B:3<=m/\m<=16)(d:1<=c/\c<=16)(C:1<=s/\s<=256)(k:fZ m c s r l)(I:aV W R 1 (ik e) m (D8 m))(u:bq W R E l):
  aq W Tryz.prog 319 [.agg (cv m c s).toArray,.slice (ik e) m m,.slice E l.length pc] R (β:=Nat) (λ_=>True) (λb=>.tuple #[ip b,i6 0]) (λb=>Row b 425 (Cy.cells ⟨m,c,s,e,E,pc,l,eD m (r/c)⟩)::R):=by
 have L:s*c<=256*16:=RC C.2 d.2;have n:=k.row;have x:0<l.length:=CD.2 k.ne;have M:=k.mx B.1;obtain⟨o,rfl⟩:=k.some u;have A:(bg l)[0*3+1]?=some (ii (r:Nat)):=by rw[si l 0 1 x (by decide),<-(k.of 0 x).2.2.1];rfl
 obtain⟨H,y⟩:∃H,eD m (r/c)=H:=⟨_,rfl⟩;have j:=k.of;have v:=k.inc;rw[y]at j⊢;refine ze Tryz.func319 Tryz.ntmps319 ?_;refine zj λ_=>?_;refine w ?_;rename_i D;refine zt (s:=wK B d C) (h:=?_);intro _ _;refine w ?_;refine VO.gF rfl rfl rfl (by simp) ?_;refine w ?_;refine VC.aK rfl rfl (by simp;exact k.ne) ?_;refine w ?_;refine VC.loop (α:=Nat) (λi=>i<=l.length) (λ_=>Row D 36 (cv m c s)::R) (λi=>[(1,.slice (ik e) m m),(2,.slice (some o) l.length pc),(3,ip D),(37,.slice (some o) l.length pc),(38,ii l.length),(39,ii i)]) (λi=>l.length-i) rfl 0 (c7 _) ae.refl ⟨rfl,rfl,rfl,rfl,rfl,rfl,trivial⟩ ?_;intro i t;refine w ?_;refine zk ?_ ?_<;>intro d
 ·
  have a:i<l.length:=by have:=cI d;omega
  clear d;have h:=j i a;refine w ?_;refine VO.pure rfl rfl (.gY ah rfl rfl (u.gz.aR (ae.drop ae.refl)) (ke l i a) rfl) rfl ?_;refine zw ?_;refine ay.aB sb_207 rfl ?_;intro n10;refine zl (l[i].cells) (dI _) ?_;refine zt (s:=FM B d C l[i].av l[i].row zO) (h:=?_);rintro⟨st,f⟩ _;rw[lam ⟨⟨h.1,h.2.1⟩,by omega,by rw[h.2.2.1];exact Int.ofNat_lt.2 n⟩];refine w ?_;exact VE.round (i+1) a zO ⟨rfl,rfl,rfl,rfl,rfl,b7 rfl (by congr 1),trivial⟩ ae.re
 clear d;refine w ?_;refine VO.pure rfl rfl (af.build sb_425 rfl (show aC _ _ _=some (Cy.cells ⟨m,c,s,e,some o,pc,l,0⟩)by simp[aC,bR,Value.cells])) rfl ?_;refine w ?_;refine zj λ_=>?_;refine w ?_;rename_i b;refine zx [6,12] 13 [0,1,2,3,4,5,6,7,8,9,10,11,12] (Row D 36 (cv m c s)::R) ?_;refine w ?_;refine VD.take rfl rfl rfl (.fH ah rfl rfl (u.gz.aR (ae.drop ae.refl)) A) rfl ?_;refine zt (s:=Pd B d C r n) (h:=?_);rintro z G;rw[y]at G;subst G;refine w ?_;refine VC.loop (α:=Nat) (λi=>i<=l.length) (λ_=>Row b 425 (Cy.cells ⟨m,c,s,e,some o,pc,l,z⟩)::R) (λi=>[(1,.slice (ik e) m m),(2,.slice (some o) l.length pc),(14,ip b),(15,ii (if h:0<i/\i<=l.length then(l[i-1]'zO).av else-1)),(74,.slice (some o) l.length pc),(75,ii l.length),(76,ii i)]) (λi=>l.length-i) rfl 0 (c7 _) ae.re ⟨rfl,rfl,rfl,rfl,rfl,rfl,rfl,trivial⟩ ?_;clear t;intro i t;refine w ?_;refine zk ?_ ?_<;>intro d
 ·
  have a:i<l.length:=by have:=cI d;omega
  clear d;have h:=j i a;obtain⟨q,F⟩:∃q:Int,(if h:0<i/\i<=l.length then(l[i-1]'zO).av else-1)=q:=⟨_,rfl⟩;have K:q<l[i].av:=by
   rw[<-F];split
   ·
    rename_i g;have:=v (i-1) zO;simpa[show i-1+1=i by omega]using this
   · omega
  rw[F];refine w ?_;refine VO.pure rfl rfl (.gY ah rfl rfl (u.gz.aR (ae.drop ae.refl)) (ke l i a) rfl) rfl ?_;refine zw ?_;refine ay.aB sb_207 rfl ?_;intro n10;refine zl (l[i].cells) (dI _) ?_;refine VC.quiet rfl (by kernel_rfl) (by kernel_rfl) ?_;refine w ?_;refine VQ.pure rfl rfl (.fH ah rfl rfl (u.gz.aR (ae.drop (ae.drop ae.refl))) A) rfl ?_;refine w ?_;refine VQ.gF rfl rfl rfl (by rw[h.2.2.1];simp) ?_;refine w ?_;refine VQ.gF rfl rfl rfl (gx zO) ?_;refine w ?_;refine VC.aK rfl rfl (by simpa using h.2.2.2.1) ?_;refine w ?_;refine VE.round (i+1) a zO ⟨rfl,rfl,rfl,b7 rfl (by rw[dif_pos ⟨by omega,a⟩];rfl),rfl,rfl,b7 rfl (by congr 1),trivial⟩ ae.re
 clear d;refine zt (s:=Ee (λp=>(p.d.data.length:Int) != 128) (λ_ _=>by simp) (u.gz.aR (ae.drop ae.refl)) zO (λp _=>RS p)) (h:=?_);intro _ _;refine w ?_
 (refine VC.aK rfl rfl (by
  rw[List.any_eq_false]
  intro p J
  obtain⟨i,t,rfl⟩:=List.mem_iff_getElem.1 J
  rw[(j i t).2.2.2.2];decide) ?_)
 refine w ?_;refine VC.loop (α:=Nat) (λi=>i<=m) (λ_=>Row b 425 (Cy.cells ⟨m,c,s,e,some o,pc,l,z⟩)::R) (λi=>[(14,ip b),(19,ii 0),(108,.slice (ik e) m m),(109,ii m),(110,ii i)]) (λi=>m-i) rfl 0 (c7 _) ae.refl ⟨rfl,rfl,rfl,rfl,rfl,trivial⟩ ?_;clear t;intro i t;refine w ?_;refine zk ?_ ?_<;>intro d
 ·
  have a:i<m:=by have:=cI d;omega
  clear d;refine w ?_;refine VO.pure rfl rfl (af.rZ ah rfl rfl (I.aR (ae.drop ae.refl)) (by rw[Oe,lam a])) rfl ?_;refine w ?_;exact VE.round (i+1) a zO ⟨rfl,rfl,rfl,rfl,b7 rfl (by congr 1),trivial⟩ ae.refl
 refine w ?_;exact VE.done b rfl trivial rfl ae.refl
end
end Go.Proofs.YtldolcbbmnmjoaaGreat
namespace Go.Proofs.YtldolcbbmnmjoaaGreat
open Go.RowKit Go.Sl
attribute [local irreducible] Sl.Own
structure dO where
  row:Nat
  md:Nat
  par:Nat
  po:Option Addr
  pc:Nat
  aA:List aj
  ro:Option Addr
  rc:Nat
  reads:List Nat
abbrev dO.cells(p:dO):List Value:=[ii p.row,ib p.md,ii p.par,.slice p.po p.aA.length p.pc,.slice p.ro p.reads.length p.rc]
structure dO.is(m c r:Nat)(D:List bK)(y:dO):Prop where
  row:y.row=r
  md:y.md=xw m D.length
  par:y.par=eD m (r/c)
  reads:y.reads=lD m (eD m (r/c)) (D.map (·.av)) y.md
  D:y.aA.map aj.D=D
abbrev S4(y:dO)(R:List ab):List ab:=bL (y.po,y.pc) y.aA::bX y.aA::jC (y.ro,y.rc) y.reads::R
theorem DZ:Tryz.prog.underlying 422=some (.map 373 421):=by kernel_rfl
theorem DY:jB Tryz.prog 373 UInt8 (λc=>ib (c.toNat:Int)) (λ_=>True):=jB.u8 (by kernel_rfl)
abbrev P0(g:FuncId)(b:Nat):Value:= .func (.func g) #[ip b] #[]
theorem J0(md:Nat):∀a w,(callFunc (tG md) a).run Tryz.prog w= .ok (.enter (tG md) a) w:=by
 unfold tG;split
 · intro _ _;simp
 ·
  split
  · intro _ _;simp
  · intro _ _;simp
theorem Ax{W:World}{R:List ab}{m c s r X pc:Nat}{K:Option Addr}{l:List aj}(T:3<=m/\m<=16)(G:1<=c/\c<=16)(hs:1<=s/\s<=256)(H:fZ m c s r l)(hd:aV W R 1 (ik X) m (D8 m))(v:bq W R K l):
  aq W Tryz.prog 293 [.agg (cv m c s).toArray,.slice (ik X) m m,.slice K l.length pc] R (β:=dO) (dO.is m c r (l.map aj.D)) (λy=>.tuple #[.agg y.cells.toArray,i6 0]) (λy=>S4 y R):=by
 have M:0<l.length:=CD.2 H.ne;have hf:=H.mx T.1;obtain⟨U,rfl⟩:=H.some v;have aa:(bg l)[0*3+1]?=some (ii (r:Nat)):=by rw[si l 0 1 M (by decide),<-(H.of 0 M).2.2.1];rfl
 have Z:=H.of;obtain⟨j,B⟩:∃j,eD m (r/c)=j:=⟨_,rfl⟩;obtain⟨md,p⟩:∃md,xw m l.length=md:=⟨_,rfl⟩;have z:md=1\/md=3\/md=2:=by
  unfold xw at p;split at p;all_goals try split at p
  all_goals omega
 obtain⟨x,I⟩:∃x:Cy,x=⟨m,c,s,X,some U,pc,l,j⟩:=⟨_,rfl⟩;refine ze Tryz.func293 Tryz.ntmps293 ?_;refine zj λ_=>?_;refine w ?_;rename_i V;refine zq ?_;refine ay.aB sb_375 rfl ?_;intro n6;refine zr (s:=R3 (R:=Row n6 375 (dO.cells ⟨0,0,0,none,0,[],none,0,[]⟩)::Row V 36 (cv m c s)::R) (pc:=pc) T G hs H (hd.aR (ae.drop (ae.drop ae.refl))) (v.aR (ae.drop (ae.drop ae.refl)))) (h:=?_);intro b _;rw[B,<-I];refine zw ?_;refine ay.lA (λc:UInt8=>Value.int .u8 (c.toNat:Int)) (λ_=>True) rfl ?_;intro J;refine w ?_;refine VO.pure rfl rfl (af.cm rfl) rfl ?_;refine zw ?_;refine ay.dR (k:=(1:UInt8)) DZ DY trivial rfl rfl rfl zh ?_;refine w ?_;refine VO.pure rfl rfl (af.cm rfl) rfl ?_;refine zw ?_;refine ay.dR (k:=(4:UInt8)) DZ DY trivial rfl rfl rfl zh ?_;refine w ?_;refine VO.pure rfl rfl (af.cm rfl) rfl ?_;refine zw ?_;refine ay.dR (k:=(3:UInt8)) DZ DY trivial rfl rfl rfl zh ?_;refine w ?_;refine VO.pure rfl rfl (af.cm rfl) rfl ?_;refine zw ?_;refine ay.dR (k:=(2:UInt8)) DZ DY trivial rfl rfl rfl zh ?_;refine w ?_;have hD:∀y:UInt8,y.toNat=md->getD (iw (iw (iw (iw [] (1:UInt8) (P0 320 b)) 4 (P0 320 b)) 3 (P0 321 b)) 2 (P0 322 b)) y=some (P0 (tG md) b):=by
  intro y A;rcases z with e|e|e<;>rw[e]at A⊢
  · obtain rfl:y=1:=UInt8.toNat_inj.1 A;rfl
  · obtain rfl:y=3:=UInt8.toNat_inj.1 A;rfl
  · obtain rfl:y=2:=UInt8.toNat_inj.1 A;rfl
 refine VC.aR (H':=db (λc:UInt8=>Value.int .u8 (c.toNat:Int)) (λ_=>True) J (iw (iw (iw (iw [] (1:UInt8) (P0 320 b)) 4 (P0 320 b)) 3 (P0 321 b)) 2 (P0 322 b))::Row b 425 x.cells::Row n6 375 (dO.cells ⟨0,0,0,none,0,[],none,0,[]⟩)::Row V 36 (cv m c s)::R) ae.re ?_;generalize iw (iw (iw (iw [] (1:UInt8) _) 4 _) 3 _) 2 _=Q at*;obtain⟨g,rfl⟩:∃y:UInt8,md=y.toNat:=⟨UInt8.ofNat md,by rcases z with e|e|e<;>rw[e]<;>rfl⟩;have u:x.m=m:=by rw[I]
 have C:x.par=j:=by rw[I]
 have t:x.l=l:=by rw[I]
 have ad:x.po=some U:=by rw[I]
 refine VC.join (α:=Nat) (λ_=>True) (λf=>Row f 375 (dO.cells ⟨r,g.toNat,j,none,0,[],none,0,[]⟩)::db (λc:UInt8=>Value.int .u8 (c.toNat:Int)) (λ_=>True) J Q::Row b 425 x.cells::Row n6 375 (dO.cells ⟨0,0,0,none,0,[],none,0,[]⟩)::R)
  (λf=>[(2,.slice (some U) l.length pc),(6,ip n6),(10,.map (some J)),(11,ip f)]) ?_ ?_
 ·
  intro Q2 jn;have N:∀S:List ab,ae W S R->az W Tryz.prog 323 [ip b] (Row b 425 x.cells::S) (ib (g.toNat:Nat)) (Row b 425 x.cells::S):=λS e=>by
   have h:=PG (W:=W) (R:=S) b x (u▸T) (by rw[I];exact hd.aR e) (by rw[u,t];exact hf);rwa [u,t,p]at h
  refine VC.vw [5,11] 12 [0,1,2,3,4,6,7,8,9] [[5,10,11,12],[11,5,10,12]] _ rfl (by kernel_rfl) (by kernel_rfl) ae.refl ?_;refine w ?_;refine VD.take rfl rfl rfl (.fH ah rfl rfl (v.gz.aR (ae.drop (ae.drop (ae.drop (ae.drop ae.refl))))) aa) rfl ?_;refine w ?_;refine VE.vf ?_ ?_
  ·
   refine zr (s:=N (db (λc:UInt8=>Value.int .u8 (c.toNat:Int)) (λ_=>True) J Q::Row n6 375 (dO.cells ⟨0,0,0,none,0,[],none,0,[]⟩)::Row V 36 (cv m c s)::R) (ae.drop (ae.drop (ae.drop ae.refl)))) (h:=?_);intro _ _;refine w ?_;apply VD.take rfl rfl rfl;apply af.build sb_375 rfl;simp[aC,bR,Value.cells];rfl;rfl;refine zw ?_;refine ay.aB sb_375 rfl ?_;intro f;refine zw ?_;refine ay.gL (vs:=dO.cells ⟨r,g.toNat,x.par,none,0,[],none,0,[]⟩) ah rfl rfl rfl rfl (by simp[Value.oneCell']) zh (by simp) ?_;rw[C];refine w ?_;exact jn.to f trivial ⟨rfl,rfl,rfl,rfl,trivial⟩ ae.re
  ·
   refine zq ?_;refine ay.aB sb_375 rfl ?_;intro f;refine zr (s:=N (Row f 375 (dO.cells ⟨0,0,0,none,0,[],none,0,[]⟩)::db (λc:UInt8=>Value.int .u8 (c.toNat:Int)) (λ_=>True) J Q::Row n6 375 (dO.cells ⟨0,0,0,none,0,[],none,0,[]⟩)::Row V 36 (cv m c s)::R) (ae.drop (ae.drop (ae.drop (ae.drop ae.refl))))) (h:=?_);intro _ _;refine w ?_;apply VD.take rfl rfl rfl;apply af.build sb_375 rfl;simp[aC,bR,Value.cells];rfl;rfl;refine zw ?_;refine ay.gL (vs:=dO.cells ⟨r,g.toNat,x.par,none,0,[],none,0,[]⟩) ah rfl rfl rfl rfl (by simp[Value.oneCell']) zh (by simp) ?_;rw[C];refine w ?_;exact jn.to f trivial ⟨rfl,rfl,rfl,rfl,trivial⟩ ae.re
 intro f _;refine w ?_;refine VO.pure rfl rfl (af.jT (k:=g) DZ DY trivial (λw=>by simp;rfl) rfl rfl zm) rfl ?_;rw[hD g rfl];refine w ?_;obtain⟨rs,P⟩:∃rs,lD m j ((l.map aj.D).map (·.av)) g.toNat=rs:=⟨_,rfl⟩;have O:=λS (e:ae W S R)=>JS (W:=W) (R:=S) b x g.toNat (u▸T.2) (by rw[ad,t];exact v.aR e) (by rw[t];omega);rw[u,C,show x.M=(l.map aj.D).map (·.av)by rw[<-t],P]at O;refine zq ?_;refine ay.gS rfl rfl (J0 _) (O (Row f 375 (dO.cells ⟨r,g.toNat,j,none,0,[],none,0,[]⟩)::db (λc:UInt8=>Value.int .u8 (c.toNat:Int)) (λ_=>True) J Q::Row n6 375 (dO.cells ⟨0,0,0,none,0,[],none,0,[]⟩)::R) (ae.drop (ae.drop (ae.drop ae.refl)))) ae.re rfl ?_;rintro⟨ro,rc⟩ _;refine w ?_;refine VC.aR (H':=bL (none,0) []::bX []::Row f 375 (dO.cells ⟨r,g.toNat,j,none,0,[],ro,rc,rs⟩)::jC (ro,rc) rs::Row n6 375 (dO.cells ⟨0,0,0,none,0,[],none,0,[]⟩)::R) (ae.trans (ae.re (L:=Row f 375 (dO.cells ⟨r,g.toNat,j,none,0,[],ro,rc,rs⟩)::jC (ro,rc) rs::Row n6 375 (dO.cells ⟨0,0,0,none,0,[],none,0,[]⟩)::R)) (λw v=>(di (res:=aj.res) v).aZ 207 3)) ?_
 refine VC.loop (α:=Nat×List aj×(Option Addr×Nat)) (λy=>y.1<=l.length/\y.2.1.map aj.D=(l.take y.1).map aj.D) (λy=>bL y.2.2 y.2.1::bX y.2.1::Row f 375 (dO.cells ⟨r,g.toNat,j,y.2.2.1,y.2.2.2,y.2.1,ro,rc,rs⟩)::jC (ro,rc) rs::Row n6 375 (dO.cells ⟨0,0,0,none,0,[],none,0,[]⟩)::R)
  (λy=>[(6,ip n6),(11,ip f),(52,.slice (some U) l.length pc),(53,ii l.length),(54,ii y.1)]) (λy=>l.length-y.1) rfl (0,[],none,0) ⟨c7 _,rfl⟩ ae.refl ⟨rfl,rfl,rfl,rfl,rfl,trivial⟩ ?_
 rintro⟨i,aA,K,D⟩ ⟨hi,q⟩;dsimp only at hi q⊢;have ag:aA.length=i:=by have:=JB List.length q;rw[ew,ew,j1]at this;omega
 refine w ?_;refine zk ?_ ?_<;>intro G
 ·
  have o:i<l.length:=by have:=cI G;omega
  clear G;have h:=Z i o;have eR:ae W (bL (K,D) aA::bX aA::Row f 375 (dO.cells ⟨r,g.toNat,j,K,D,aA,ro,rc,rs⟩)::jC (ro,rc) rs::Row n6 375 (dO.cells ⟨0,0,0,none,0,[],none,0,[]⟩)::R) R:=ae.drop (ae.drop (ae.drop (ae.drop (ae.drop ae.refl))));refine w ?_;refine VO.pure rfl rfl (.gY ah rfl rfl (v.gz.aR eR) (ke l i o) rfl) rfl ?_;refine zw ?_;refine ay.aB sb_207 rfl ?_;intro n13;refine zl (l[i].cells) (dI _) ?_;refine zt (s:=gg ((v.each _ (fF o)).aR (ae.trans (ae.drop ae.refl) eR)) zO) (h:=?_);intro n _;refine zw ?_;refine ay.buildSlice (cs:=(aj.mk l[i].av l[i].row ⟨n.1,n.2,l[i].d.data⟩).cells) st_126 rfl rfl (by simp[Value.cells]) (by simp[Value.cells]) (by decide) rfl ?_;intro nb;refine zq ?_;refine ay.cg st_126 rfl rfl zh zm rfl (dI _) (by simp only[maxLen];omega) zO rfl ?_;intro F E;refine w ?_;refine VE.round (i+1,aA++[aj.mk l[i].av l[i].row ⟨n.1,n.2,l[i].d.data⟩],(F,E)) ⟨o,by rw[nZ o,jv,jv,q];rfl⟩ (by dsimp only;omega) ⟨rfl,rfl,rfl,rfl,b7 rfl (by congr 1),trivial⟩ ?_;dsimp only;unfold bL dO.cells;rw[im,c9,ie];exact λw v=>(ae.re:ae W (bX (aA++[aj.mk l[i].av l[i].row ⟨n.1,n.2,l[i].d.data⟩])::_) _) w (du (res:=aj.res) (a:=aj.mk l[i].av l[i].row ⟨n.1,n.2,l[i].d.data⟩) ((ae.re:ae W _ (aj.res (aj.mk l[i].av l[i].row ⟨n.1,n.2,l[i].d.data⟩)::bX aA::Sl.Own 207 3 (.slice F (aA.length+1) E) (aA.length+1) (bg aA++(aj.mk l[i].av l[i].row ⟨n.1,n.2,l[i].d.data⟩).cells)::Row f 375 [ii r,ib g.toNat,ii j,.slice F (aA.length+1) E,.slice ro rs.length rc]::jC (ro,rc) rs::Row n6 375 (dO.cells ⟨0,0,0,none,0,[],none,0,[]⟩)::R)) w v))
 have Y:i=l.length:=by have:=dx G;omega
 clear G;rw[Y,SP]at q;obtain⟨y,A⟩:∃y:dO,y=⟨r,g.toNat,j,K,D,aA,ro,rc,rs⟩:=⟨_,rfl⟩;rw[<-A];refine zS y.cells ?_;refine VE.results2 (.inl rfl) y rfl (aL.agg (vs:=y.cells) ah rfl rfl zm rfl rfl) (.tmp rfl) ?_ rfl (by subst A;exact ae.re);subst A;exact⟨rfl,by rw[ew];exact p.symm,B.symm,by dsimp only;rw[B,P],q⟩
end Go.Proofs.YtldolcbbmnmjoaaGreat
namespace Go.Proofs.YtldolcbbmnmjoaaGreat
open Go.Shelf
def Kk:Go.Shelf.Ren:=⟨λ|6=>325|15=>318|14=>360|28=>346|29=>347|20=>370|21=>371|22=>372|23=>373|24=>374|25=>375|26=>376|27=>377|46=>379|47=>364|48=>365|49=>380|50=>381|57=>382|n=>n,λ|22=>126|24=>207|25=>428|3=>3|39=>158|0=>0|53=>222|55=>43|4=>4|46=>443|45=>442|50=>384|5=>5|9=>9|66=>458|70=>214|76=>467|77=>468|n=>n,λ|n=>n⟩
theorem TG:Go.Proofs.SlLaysF0.n6 Tryz.prog Kk:={
 mixed:=by kernel_rfl
 f6:=⟨Tryz.f325.name,by decide,Tryz.func325.trans (congrArg some (by kernel_rfl))⟩
 f14:=⟨Tryz.f360.name,by decide,Tryz.func360.trans (congrArg some (by kernel_rfl))⟩
 f15:=Tryz.func318.trans (congrArg some (by kernel_rfl))
 f20:=⟨Tryz.f370.name,by decide,Tryz.func370.trans (congrArg some (by kernel_rfl))⟩
 f21:=⟨Tryz.f371.name,by decide,Tryz.func371.trans (congrArg some (by kernel_rfl))⟩
 f22:=⟨Tryz.f372.name,by decide,Tryz.func372.trans (congrArg some (by kernel_rfl))⟩
 f23:=⟨Tryz.f373.name,by decide,Tryz.func373.trans (congrArg some (by kernel_rfl))⟩
 f24:=⟨Tryz.f374.name,by decide,Tryz.func374.trans (congrArg some (by kernel_rfl))⟩
 f25:=⟨Tryz.f375.name,by decide,Tryz.func375.trans (congrArg some (by kernel_rfl))⟩
 f26:=⟨Tryz.f376.name,by decide,Tryz.func376.trans (congrArg some (by kernel_rfl))⟩
 f27:=⟨Tryz.f377.name,by decide,Tryz.func377.trans (congrArg some (by kernel_rfl))⟩
 f28:=Tryz.func346.trans (congrArg some (by kernel_rfl))
 f29:=Tryz.func347.trans (congrArg some (by kernel_rfl))
 f46:=⟨Tryz.f379.name,by decide,Tryz.func379.trans (congrArg some (by kernel_rfl))⟩
 f47:=Tryz.func364.trans (congrArg some (by kernel_rfl))
 f48:=Tryz.func365.trans (congrArg some (by kernel_rfl))
 f49:=⟨Tryz.f380.name,by decide,Tryz.func380.trans (congrArg some (by kernel_rfl))⟩
 f50:=⟨Tryz.f381.name,by decide,Tryz.func381.trans (congrArg some (by kernel_rfl))⟩
 f57:=⟨Tryz.f382.name,by decide,Tryz.func382.trans (congrArg some (by kernel_rfl))⟩
 t0:=Tryz.underlying0
 a0:=Tryz.isAgg0
 z0:=Tryz.sizeOf0
 v0:=Tryz.zeroValue0
 t3:=Tryz.underlying3
 a3:=Tryz.isAgg3
 z3:=Tryz.sizeOf3
 v3:=Tryz.zeroValue3
 t4:=Tryz.underlying4
 a4:=Tryz.isAgg4
 z4:=Tryz.sizeOf4
 v4:=Tryz.zeroValue4
 t5:=Tryz.underlying5
 a5:=Tryz.isAgg5
 z5:=Tryz.sizeOf5
 v5:=Tryz.zeroValue5
 t9:=Tryz.underlying9
 a9:=Tryz.isAgg9
 z9:=Tryz.sizeOf9
 v9:=Tryz.zeroValue9
 t22:=Tryz.underlying126
 a22:=Tryz.isAgg126
 z22:=Tryz.sizeOf126
 v22:=Tryz.zeroValue126
 t25:=Tryz.underlying428
 a25:=Tryz.isAgg428
 z25:=Tryz.sizeOf428
 v25:=Tryz.zeroValue428
 t39:=Tryz.underlying158
 a39:=Tryz.isAgg158
 z39:=Tryz.sizeOf158
 v39:=Tryz.zeroValue158
 t45:=Tryz.underlying442
 a45:=Tryz.isAgg442
 z45:=Tryz.sizeOf442
 v45:=Tryz.zeroValue442
 t46:=Tryz.underlying443
 a46:=Tryz.isAgg443
 z46:=Tryz.sizeOf443
 v46:=Tryz.zeroValue443
 t50:=Tryz.underlying384
 a50:=Tryz.isAgg384
 z50:=Tryz.sizeOf384
 v50:=Tryz.zeroValue384
 t53:=Tryz.underlying222
 a53:=Tryz.isAgg222
 z53:=Tryz.sizeOf222
 v53:=Tryz.zeroValue222
 t55:=Tryz.underlying43
 a55:=Tryz.isAgg43
 z55:=Tryz.sizeOf43
 v55:=Tryz.zeroValue43
 t66:=Tryz.underlying458
 a66:=Tryz.isAgg458
 z66:=Tryz.sizeOf458
 v66:=Tryz.zeroValue458
 t70:=Tryz.underlying214
 a70:=Tryz.isAgg214
 z70:=Tryz.sizeOf214
 v70:=Tryz.zeroValue214
 t76:=Tryz.underlying467
 a76:=Tryz.isAgg467
 z76:=Tryz.sizeOf467
 v76:=Tryz.zeroValue467
 t77:=Tryz.underlying468
 a77:=Tryz.isAgg468
 z77:=Tryz.sizeOf468
 v77:=Tryz.zeroValue468}
open Go.RowKit Go.Sl
attribute [local irreducible] Sl.Own
abbrev ig:={p:aj//0<=p.av/\p.av<16}
instance:Inhabited ig:=⟨⟨⟨0,0,⟨none,0,[]⟩⟩,by decide,by decide⟩⟩
abbrev ig.enc(p:ig):List Value:=p.1.cells
def ig.cf(a b:ig):Int:=a.1.av-b.1.av
theorem GW(x y:ig)(W:World):Calls Tryz.prog 326 #[.agg x.enc.toArray,.agg y.enc.toArray] W λe i=>e= .returned (ii (x.cf y))/\∃q a,i=Go.Sort.grow (W.drewN q) a:=by
 obtain⟨⟨b,k,j⟩,d,f⟩:=x;obtain⟨⟨c,m,l⟩,g,h⟩:=y;dsimp only at d f g h;have e:IntKind.i64.wrap (b-c)=b-c:=IntWalk.i64_in _ ⟨by omega,by omega⟩;go_enter Tryz.func326,Tryz.ntmps326;go_wp2;go_ret;exact⟨by simp;rfl,0,_,by rw[Go.Sort.alloc_eq_grow,Go.Sort.alloc_eq_grow,Go.Sort.grow_grow];rfl⟩
open Go.Sort in
theorem zQ(d:Array ig):(flatK ig.enc 3 d).toList=bg (d.toList.map (·.1)):=by
 have g:(flatK ig.enc 3 d).toList.length=(bg (d.toList.map (·.1))).length:=by rw[mJ,Array.length_toList,size_flatK,List.length_map,Array.length_toList]
 refine List.ext_getElem? λt=>?_;by_cases a:t<d.size*3
 ·
  have b:t/3<(d.toList.map (·.1)).length:=by rw[List.length_map,Array.length_toList];omega
  have c:t/3<d.size:=by omega
  have e:=si (d.toList.map (·.1)) (t/3) (t%3) b zO;rw[show t/3*3+t%3=t by omega]at e;rw[e,Array.getElem?_toList,Array.getElem?_eq_getElem (by rw[size_flatK];exact a),<-getElem!_pos (flatK ig.enc 3 d) t (by rw[size_flatK];exact a),get_flatK _ _ _ _ a,getElem!_pos d _ c,List.getElem_map,Array.getElem_toList];obtain⟨q,f⟩:∃q,t%3=q:=⟨_,rfl⟩;rw[f];rcases(show q=0\/q=1\/q=2 by omega)with rfl|rfl|rfl<;>rfl
 · rw[List.getElem?_eq_none (by rw[Array.length_toList,size_flatK];omega),List.getElem?_eq_none (by rw[<-g,Array.length_toList,size_flatK];omega)]
theorem Sl.Holds.grow{W w:World}{H:List ab}(h:Sl.Holds W H w):∀(os:List Obj)(w:World),Sl.Holds W H w->Sl.Holds W H (Go.Sort.grow w os.toArray)
  |[],w,h=>by simpa[Go.Sort.grow]using h
  |o::r,w,h=>by
    have:=Sl.Holds.grow (w:=w) h r (w.alloc o) h.oE.tail;rwa [Go.Sort.alloc_eq_grow,Go.Sort.grow_grow,show #[o]++r.toArray=(o::r).toArray by simp]at this
theorem ig.lt(x y:ig):ltOf ig.cf x y=decide (x.1.av<y.1.av):=by
 unfold ltOf ig.cf;rw[decide_eq_decide];omega
theorem ig.swo:Go.Sort.SWO (ltOf ig.cf)where
 irrefl x:=by rw[ig.lt];simp
 trans x y z a b:=by rw[ig.lt]at*;simp at*;omega
 ntrans x y z a b:=by rw[ig.lt]at*;simp at*;omega
open Go.Sort in
theorem Ny{W:World}{R:List ab}{xp:Option Addr×Nat}{l:List aj}(z:∀p∈l,0<=p.av/\p.av<16)(T:l≠[])(L:l.length<=1000000):
  aq W Tryz.prog 325 [.slice xp.1 l.length xp.2,.func (.func 326) #[] #[]] (bL xp l::R) (β:=List aj) (λE=>E.Perm l) (λ_=>.tuple #[]) (λE=>bL xp E::R):=by
 unfold aq;intro w V;obtain⟨X,h⟩:=V.gy;rcases h with⟨_,P,_⟩|⟨b,cap,spare,e,k,f,U,s⟩
 · exact absurd (List.length_eq_zero_iff.1 P) T
 injection e with F _ G;obtain⟨d,u⟩:∃d:Array ig,d.toList.map (·.1)=l:=⟨(l.attachWith _ z).toArray,by simp⟩;have C:d.size=l.length:=by rw[<-u,List.length_map,Array.length_toList]
 have g:=zQ d;rw[u]at g;have S:l.length<=maxLen:=Nat.le_trans k f;have K:HoldsK ig.enc 3 w b 0 d:=λj A=>by
  have D:(bg l++spare)[j]?=some (flatK ig.enc 3 d)[j]!:=by
   rw[<-g,List.getElem?_append_left (by rw[Array.length_toList];exact A),Array.getElem?_toList,Array.getElem?_eq_getElem A,getElem!_pos (flatK ig.enc 3 d) j A]
  rw[Nat.zero_add];exact⟨s.cell (.head _) D,s.free (.head _)⟩
 have Q:=AnyQ.slices_SortFunc TG 3 Tryz.isAgg207 Tryz.sizeOf207 ig.enc (λ_=>rfl) (λx v D=>dI x.1 v D) ig.cf ig.swo 326 #[] b 0 cap d w (enters_of Tryz.func326 (by kernel_rfl) rfl) (λ_ _ _ _ x y=>GW x y _) K (s.lt (.head _)) zO;rw[F,G,<-C];refine Q.mono ?_;rintro e' Y ⟨rfl,a,n,os,⟨m,_,M⟩,_,rfl⟩;have B:a.toList.Perm d.toList:=by
  rw[Array.extract_eq_self_of_le zO,Array.extract_eq_self_of_le zO]at M;exact M
 have c:(a.toList.map (·.1)).Perm l:=u▸B.map _;refine⟨a.toList.map (·.1),c,rfl,?_⟩;have r:putRowK ig.enc 3 (Go.Sort.ahead w n) b 0 a=(w.drewN n).setCells b 0 (bg (a.toList.map (·.1))):=by
  have q:=setCells_putRow (w.drewN n) b 0 (flatK ig.enc 3 a).toList 0 (flatK ig.enc 3 d) (by rw[Array.length_toList,size_flatK,size_flatK];omega);rw[putRow_self _ _ _ _ _ (show Go.Sort.Holds id (w.drewN n) b 0 (flatK ig.enc 3 d)from K)]at q;rw[<-zQ,show(0:Nat)+0=0 from rfl]at*;rw[q];unfold putRowK;congr 1;refine(ext_get! (by rw[size_setMany,size_flatK,size_flatK,m]) λt N=>?_).symm;rw[size_setMany]at N;rw[get_setMany _ _ _ _ N,if_pos ⟨Nat.zero_le _,by rw[Array.length_toList,size_flatK,m,<-size_flatK ig.enc 3 d];omega⟩];rw[Nat.sub_zero,<-Array.getElem!_toList]
 show Sl.Holds W _ (grow (putRowK ig.enc 3 (Go.Sort.ahead w n) b 0 a) os);rw[r];have i:(bg (a.toList.map (·.1))).length=(bg l).length:=by rw[mJ,mJ,c.length_eq]
 have H:=(s.drewN n).setCells (o:=0) (vs:=bg (a.toList.map (·.1))) .head (by rw[List.length_append];omega);have I:Sl.Holds W (Row b 207 (bg (a.toList.map (·.1))++spare)::R) ((w.drewN n).setCells b 0 (bg (a.toList.map (·.1)))):=by
  rw[List.take_zero,List.nil_append,Nat.zero_add,i,List.drop_left]at H;exact H
 have J:=Sl.Holds.grow I os.toList _ I;rw[Array.toArray_toList]at J;have O:xp=(ik b,cap):=Prod.ext F G;subst O;show Sl.Holds W (bL _ _::R) _;unfold bL;rw[c.length_eq];exact J.fS (by rw[mJ,c.length_eq]) k f (by rw[List.length_append,i,<-List.length_append];exact U)
end Go.Proofs.YtldolcbbmnmjoaaGreat
namespace Go.Proofs.YtldolcbbmnmjoaaGreat
open Go.RowKit Go.Sl
attribute [local irreducible] Sl.Own
section
variable{W:World}{R:List ab}
theorem Rn{ao c:Option Addr}{ac bc:Nat}{xs:List UInt8}(j:xs.length<=1000000)(e:aV W R 1 ao xs.length (bytes xs))(f:aV W R 1 c xs.length (bytes xs)):az W Tryz.prog 357 [.slice ao xs.length ac,.slice c xs.length bc] R (.bool true) R:=by
 refine ze Tryz.func357 Tryz.ntmps357 ?_;refine VC.aK rfl rfl (by simp) ?_;refine w ?_;refine VC.loop (α:=Nat) (λi=>i<=xs.length) (λ_=>R) (λi=>[(0,.slice ao xs.length ac),(1,.slice c xs.length bc),(12,ii xs.length),(13,ii i)]) (λi=>xs.length-i) rfl 0 (c7 _) ae.refl ⟨rfl,rfl,rfl,rfl,trivial⟩ ?_;intro i h;refine w ?_;refine zk ?_ ?_<;>intro g
 ·
  have d:i<xs.length:=by have:=cI g;omega
  clear g;obtain⟨a,rfl⟩:∃x,ao=some x:=by cases ao with|none=>have:=e.nil rfl;omega|some x=>exact⟨x,rfl⟩
  obtain⟨b,rfl⟩:∃x,c=some x:=by cases c with|none=>have:=f.nil rfl;omega|some x=>exact⟨x,rfl⟩
  have hb1:=e;have hb2:=f;refine w ?_;refine VC.quiet rfl (by kernel_rfl) (by kernel_rfl) ?_;refine w ?_;refine VC.aK rfl rfl (by simp) ?_;refine w ?_;exact VE.round (i+1) d zO ⟨rfl,rfl,rfl,b7 rfl (by congr 1),trivial⟩ ae.refl
 refine w ?_;exact VE.ax rfl rfl ae.refl
theorem Rp{ao c:Option Addr}{ac bc:Nat}{xs:List Nat}(k:xs.length<=1000000)(e:aV W R 1 ao xs.length (tq xs))(f:aV W R 1 c xs.length (tq xs)):az W Tryz.prog 359 [.slice ao xs.length ac,.slice c xs.length bc] R (.bool true) R:=by
 refine ze Tryz.func359 Tryz.ntmps359 ?_;refine VC.aK rfl rfl (by simp) ?_;refine w ?_;refine VC.loop (α:=Nat) (λi=>i<=xs.length) (λ_=>R) (λi=>[(0,.slice ao xs.length ac),(1,.slice c xs.length bc),(12,ii xs.length),(13,ii i)]) (λi=>xs.length-i) rfl 0 (c7 _) ae.refl ⟨rfl,rfl,rfl,rfl,trivial⟩ ?_;intro i j;refine w ?_;refine zk ?_ ?_<;>intro g
 ·
  have d:i<xs.length:=by have:=cI g;omega
  clear g;obtain⟨a,rfl⟩:∃x,ao=some x:=by cases ao with|none=>have:=e.nil rfl;omega|some x=>exact⟨x,rfl⟩
  obtain⟨b,rfl⟩:∃x,c=some x:=by cases c with|none=>have:=f.nil rfl;omega|some x=>exact⟨x,rfl⟩
  have h:(tq xs)[i]?=some (ii (xs[i]:Nat)):=by rw[law,fL d];rfl
  refine w ?_;refine VC.quiet rfl (by kernel_rfl) (by kernel_rfl) ?_;refine w ?_;refine VQ.pure rfl rfl (.fH ah rfl rfl e h) rfl ?_;refine w ?_;refine VQ.pure rfl rfl (.fH ah rfl rfl f h) rfl ?_;refine w ?_;refine VC.aK rfl rfl (by simp) ?_;refine w ?_;exact VE.round (i+1) d zO ⟨rfl,rfl,rfl,b7 rfl (by congr 1),trivial⟩ ae.refl
 refine w ?_;exact VE.ax rfl rfl ae.refl
theorem KZ{p q:aj}(h:p.D=q.D):p.av=q.av/\p.row=q.row/\p.d.data=q.d.data:=⟨JB bK.av h,JB bK.row h,JB bK.data h⟩
theorem MB{p q:aj}(h:p.D=q.D)(f:p.d.data.length<=1000000)(d:aV W R 1 p.d.ao p.d.data.length (bytes p.d.data))(e:aV W R 1 q.d.ao q.d.data.length (bytes q.d.data)):az W Tryz.prog 356 [.agg p.cells.toArray,.agg q.cells.toArray] R (.bool true) R:=by
 obtain⟨pm,j,g,pc,i⟩:=p;obtain⟨n,qr,k,l,m⟩:=q;obtain⟨a,b,c⟩:=KZ h;dsimp only at a b c f d e;subst a b c;refine ze Tryz.func356 Tryz.ntmps356 ?_;refine zj λ_=>?_;refine w ?_;refine zj λ_=>?_;refine w ?_;refine VO.gT rfl rfl rfl (by simp) ?_;refine w ?_;refine VO.gT rfl rfl rfl (by simp) ?_;refine zt (s:=Rn f (d.aR (ae.drop (ae.drop ae.refl))) (e.aR (ae.drop (ae.drop ae.refl)))) (h:=?_);intro _ _;refine w ?_;exact VE.ax rfl rfl ae.re
theorem Ro{ao e:Option Addr}{ac bc:Nat}{l c:List aj}(f:c.length=l.length)(p:l.length<=1000000)(j:aV W R 3 ao l.length (bg l))(k:aV W R 3 e c.length (bg c))(n:∀S,ae W S R->∀i (h:i<l.length),az W Tryz.prog 356 [.agg l[i].cells.toArray,.agg (c[i]'(f▸h)).cells.toArray] S (.bool true) S):
  az W Tryz.prog 358 [.slice ao l.length ac,.slice e c.length bc,.func (.func 356) #[] #[]] R (.bool true) R:=by
 refine ze Tryz.func358 Tryz.ntmps358 ?_;refine VC.aK rfl rfl (by rw[f];simp) ?_;refine w ?_;refine VC.loop (α:=Nat) (λi=>i<=l.length) (λ_=>R) (λi=>[(0,.slice ao l.length ac),(1,.slice e c.length bc),(2,.func (.func 356) #[] #[]),(15,.slice ao l.length ac),(16,ii l.length),(17,ii i)]) (λi=>l.length-i) rfl 0 (c7 _) ae.refl ⟨rfl,rfl,rfl,rfl,rfl,rfl,trivial⟩ ?_;intro i o;refine w ?_;refine zk ?_ ?_<;>intro m
 ·
  have d:i<l.length:=by have:=cI m;omega
  have g:i<c.length:=by omega
  clear m;obtain⟨a,rfl⟩:∃x,ao=some x:=by cases ao with|none=>have:=j.nil rfl;omega|some x=>exact⟨x,rfl⟩
  obtain⟨b,rfl⟩:∃x,e=some x:=by cases e with|none=>have:=k.nil rfl;omega|some x=>exact⟨x,rfl⟩
  refine w ?_;refine VO.pure rfl rfl (.gY ah rfl rfl j (ke l i d) rfl) rfl ?_;refine zw ?_;refine ay.aB sb_207 rfl ?_;intro n8;refine zl (l[i].cells) (dI _) ?_;refine VO.pure rfl rfl (.gY ah rfl rfl (k.aR (ae.drop ae.refl)) (ke c i g) rfl) rfl ?_;refine zw ?_;refine ay.aB sb_207 rfl ?_;intro n9;refine zl (c[i].cells) (dI _) ?_;refine zt (s:=n _ (ae.drop (ae.drop ae.refl)) i d) (h:=?_);intro _ _;refine w ?_;exact VE.round (i+1) d zO ⟨rfl,rfl,rfl,rfl,rfl,b7 rfl (by congr 1),trivial⟩ ae.re
 refine w ?_;exact VE.ax rfl rfl ae.refl
structure oA(W:World)(R:List ab)(p:dO):Prop where
  aA:bq W R p.po p.aA
  reads:aV W R 1 p.ro p.reads.length (tq p.reads)
  mx:p.aA.length<=1000000/\p.reads.length<=1000000
  n:∀q∈p.aA,q.d.data.length<=1000000
theorem oA.aR{H:List ab}{p:dO}(h:oA W R p)(e:ae W H R):oA W H p:=⟨h.aA.aR e,h.reads.aR e,h.mx,h.n⟩
theorem PC{p q:dO}(c:oA W R p)(g:oA W R q)(k:p.row=q.row)(m:p.md=q.md)(n:p.par=q.par)(j:p.aA.map aj.D=q.aA.map aj.D)(o:p.reads=q.reads):
  az W Tryz.prog 324 [.agg p.cells.toArray,.agg q.cells.toArray] R (.bool true) R:=by
 have a:q.aA.length=p.aA.length:=by have:=JB List.length j;rw[ew,ew]at this;exact this.symm
 have f:∀S,ae W S R->∀i (h:i<p.aA.length),az W Tryz.prog 356 [.agg p.aA[i].cells.toArray,.agg (q.aA[i]'(a▸h)).cells.toArray] S (.bool true) S:=λS e i h=>by
  refine MB ?_ (c.n _ (fF h)) ((c.aA.each _ (fF h)).aR e) ((g.aA.each _ (fF _)).aR e);have:=JB (λl=>l[i]?) j;rw[law,law,fL h,fL (a▸h)]at this;exact HF this
 refine ze Tryz.func324 Tryz.ntmps324 ?_;refine zj λ_=>?_;refine w ?_;refine zj λ_=>?_;refine w ?_;refine VO.gT rfl rfl rfl (by rw[k];simp) ?_;refine w ?_;refine VO.gT rfl rfl rfl (by rw[m];simp) ?_;refine w ?_;refine VO.gT rfl rfl rfl (by rw[n];simp) ?_;refine w ?_;rename_i r t;have b:ae W (Row t 375 q.cells::Row r 375 p.cells::R) R:=ae.drop (ae.drop ae.refl);refine zt (s:=Ro a c.mx.1 (c.aA.gz.aR b) (g.aA.gz.aR b) λS e=>f S (ae.trans e b)) (h:=?_);intro _ _;refine w ?_;have d:=g.reads;rw[<-o]at d⊢;refine zt (s:=Rp c.mx.2 (c.reads.aR b) (d.aR b)) (h:=?_);intro _ _;refine w ?_;exact VE.ax rfl rfl b
end
end Go.Proofs.YtldolcbbmnmjoaaGreat
namespace Go.Proofs.YtldolcbbmnmjoaaGreat
open Go.RowKit Go.Sl
attribute [local irreducible] Sl.Own
theorem fZ.Tt{m c s r:Nat}{l d:List aj}(h:fZ m c s r l)(e:d.map aj.D=l.map aj.D):fZ m c s r d:=by
 have a:d.length=l.length:=by have:=JB List.length e;rwa [ew,ew]at this
 have f:∀i (h:i<d.length),d[i].D=(l[i]'(a▸h)).D:=λi h=>by
  have:=JB (λl=>l[i]?) e;rw[law,law,fL h,fL (a▸h)]at this;exact HF this
 refine⟨λq=>h.ne (te.1 (by rw[<-a,q];rfl)),h.row,λi b=>?_,λi b=>?_⟩
 ·
  obtain⟨g,j,k⟩:=KZ (f i b);rw[g,j,k];exact h.of i (a▸b)
 ·
  rw[(KZ (f i _)).1,(KZ (f (i+1) b)).1];exact h.inc i (a▸b)
def uT(L:List aU)(reads:List Nat)(D:List bK):List UInt8:=xf (reads.map (ij L)++D.map (·.data))
abbrev G4(n11 b a:Nat)(q p:dO)(m c s:Nat)(R:List ab):List ab:=Row n11 375 q.cells::bL (q.po,q.pc) q.aA::bX q.aA::jC (q.ro,q.rc) q.reads::Row b 375 p.cells::Row a 36 (cv m c s)::R
theorem G4.aR{W:World}{n11 b a:Nat}{q p:dO}{m c s:Nat}{R:List ab}:ae W (G4 n11 b a q p m c s R) R:=ae.drop (ae.drop (ae.drop (ae.drop (ae.drop (ae.drop ae.refl)))))
theorem Eg{W:World}{R:List ab}{m c s r da rc:Nat}{lo:Option Addr}{L:List aU}{D:List bK}{p:dO}(hm:3<=m/\m<=16)(t:1<=c/\c<=16)(hs:1<=s/\s<=256)(hl:fZ m c s r p.aA)(hd:aV W R 1 (ik da) m (D8 m))(hp:oA W R p)(b:p.is m c r D)
  (hL:qI W R lo L)(bw:L.length=m)(B:∀i∈p.reads,i<m/\(ij L i).length=128):
  aq W Tryz.prog 294 [.agg (cv m c s).toArray,.slice (ik da) m m,.agg p.cells.toArray,.slice lo m rc] R (β:=List aj×Option Addr×Nat) (λy=>(y.1.map aj.D).Perm (D++[⟨(eD m (r/c):Nat),r,uT L p.reads D⟩])) (λy=>.tuple #[.slice y.2.1 y.1.length y.2.2,i6 0]) (λy=>bL y.2 y.1::bX y.1::R):=by
 have hf:=hl.mx hm.1;obtain⟨bs,rfl⟩:∃x,lo=some x:=by cases lo with|none=>have:=hL.gz.nil rfl;omega|some x=>exact⟨x,rfl⟩
 have bm:=jV hm.1 (r/c);refine ze Tryz.func294 Tryz.ntmps294 ?_;refine zj λ_=>?_;refine w ?_;refine zj λ_=>?_;refine w ?_;rename_i J K;refine zt (s:=wK hm t hs) (h:=?_);intro _ _;refine zr (s:=Ax (R:=Row K 375 p.cells::Row J 36 (cv m c s)::R) hm t hs hl (hd.aR (ae.drop (ae.drop ae.refl))) (hp.aA.aR (ae.drop (ae.drop ae.refl)))) (h:=?_);intro q o;rw[b.D]at o;have Q:fZ m c s r q.aA:=hl.Tt (o.D.trans b.D.symm);have aa:p.reads=q.reads:=by rw[b.reads,o.reads,b.md,o.md]
 have bx:q.aA.length=p.aA.length:=by have:=JB List.length (o.D.trans b.D.symm);rwa [ew,ew]at this
 have bt:D.length=q.aA.length:=by rw[<-o.D,ew]
 have Z:∀x∈q.aA,x.d.data.length=128:=λx f=>by
  obtain⟨i,N,rfl⟩:=List.mem_iff_getElem.1 f;exact(Q.of i N).2.2.2.2
 have V:=hp.mx.2;rw[aa]at B V⊢;refine VO.bH (λw z=>z.bn (.head _)) ?_;intro X;refine VO.bH (λw z=>bX.bH ((ae.re:ae W _ [bX q.aA]) w z)) ?_;intro bh;refine VO.bH (λw z=>z.bn (.tail _ (.tail _ (.head _)))) ?_;intro Y;have C:∀H,bL (q.po,q.pc) q.aA∈H->bX q.aA∈H->jC (q.ro,q.rc) q.reads∈H->oA W H q:=λH m1 m2 m3=>⟨bq.own X bh m1 m2,aV.own (D7 _) m3 (by simp) Y,⟨by omega,V⟩,λx f=>by rw[Z x f];decide⟩;refine zw ?_;refine ay.aB sb_375 rfl ?_;intro n11;refine zS q.cells ?_;refine zt (s:=PC (hp.aR G4.aR) (C _ zm zm zm) (b.row.trans o.row.symm) (b.md.trans o.md.symm) (b.par.trans o.par.symm) (b.D.trans o.D.symm) aa) (h:=?_);intro _ _;refine w ?_;refine VC.aK rfl rfl (by simp) ?_;refine zt (s:=AW) (h:=?_);rintro⟨sp,M⟩ _;refine w ?_
 refine VC.loop (α:=Nat×Int) (λy=>y.1<=q.reads.length) (λy=>oo sp M (xf ((q.reads.take y.1).map (ij L))) y.2 (G4 n11 K J q p m c s R))
  (λy=>[(1,.slice (ik da) m m),(3,.slice (some bs) m rc),(11,ip n11),(13,ip sp),(54,.slice q.ro q.reads.length q.rc),(55,ii q.reads.length),(56,ii y.1)]) (λy=>q.reads.length-y.1) rfl (0,0) (c7 _) ae.refl ⟨rfl,rfl,rfl,rfl,rfl,rfl,rfl,trivial⟩ ?_
 ·
  rintro⟨i,k⟩ N;dsimp only at N⊢;have an:(xf ((q.reads.take i).map (ij L))).length=128:=nV λx f=>by obtain⟨j,hj,rfl⟩:=fG.1 f;exact(B j (Tl hj)).2
  have eS:∀T I,ae W (oo sp M T I (G4 n11 K J q p m c s R)) R:=λT I=>ae.drop (ae.drop G4.aR);refine w ?_;refine zk ?_ ?_<;>intro t
  ·
   have a:i<q.reads.length:=by have:=cI t;omega
   clear t;obtain⟨h1,U⟩:=B _ (fF a);have O:q.reads[i]<L.length:=by omega
   have F:xf ((q.reads.take (i+1)).map (ij L))=eP (xf ((q.reads.take i).map (ij L))) (ij L q.reads[i]):=by rw[nZ a,jv,List.map_singleton,Cw]
   rw[vv O]at U F;have ad:=(C (oo sp M (xf ((q.reads.take i).map (ij L))) k (G4 n11 K J q p m c s R)) zm zm zm).reads;obtain⟨qa,G⟩:∃x,q.ro=some x:=by cases e:q.ro with|none=>have:=Y e;omega|some x=>exact⟨x,rfl⟩
   rw[G]at ad⊢;refine w ?_;refine VO.pure rfl rfl (.fH ah rfl rfl ad (show(tq q.reads)[i]?=some (ii (q.reads[i]:Nat))by rw[law,fL a];rfl)) rfl ?_;refine w ?_;refine VO.pure rfl rfl (.fH ah rfl rfl (hL.gz.aR (eS _ _)) (show(L.map aU.ei)[q.reads[i]]?=some (L[q.reads[i]].ei)by rw[law,fL O];rfl)) rfl ?_;refine w ?_;refine VO.re 64 (.slice L[q.reads[i]].ao 128 L[q.reads[i]].cap) rfl (by show Value.slice _ _ _=_;rw[U]) ?_;refine zt (s:=Cv sp M _ L[q.reads[i]].data k an U λT I=>U▸(hL.each _ (fF O)).aR (eS T I)) (h:=?_);intro I _;rw[<-F];refine w ?_;exact VE.round (i+1,I) a (by dsimp only;omega) ⟨rfl,rfl,rfl,rfl,rfl,rfl,b7 rfl (by congr 1),trivial⟩ ae.refl
  have E:i=q.reads.length:=by have:=dx t;omega
  clear t;rw[E,SP]at an⊢;clear E N;refine w ?_;refine VC.aR (H':=bL (none,0) (q.aA.take 0)::oo sp M (xf (q.reads.map (ij L)++(D.take 0).map (·.data))) k (G4 n11 K J q p m c s R)) (λw z=>by rw[DK,DK,HG,mn];exact z.aZ 207 3) ?_
  refine VC.loop (α:=Nat×(Option Addr×Nat)×Int) (λy=>y.1<=q.aA.length) (λy=>bL y.2.1 (q.aA.take y.1)::oo sp M (xf (q.reads.map (ij L)++(D.take y.1).map (·.data))) y.2.2 (G4 n11 K J q p m c s R))
   (λy=>[(1,.slice (ik da) m m),(11,ip n11),(13,ip sp),(18,.slice y.2.1.1 (q.aA.take y.1).length y.2.1.2),(70,.slice q.po q.aA.length q.pc),(71,ii q.aA.length),(72,ii y.1)]) (λy=>q.aA.length-y.1) rfl (0,(none,0),k) (c7 _) ae.refl ⟨rfl,rfl,rfl,rfl,rfl,rfl,rfl,trivial⟩ ?_
  have bp:∀x∈q.reads.map (ij L),x.length=128:=λx f=>by obtain⟨j,hj,rfl⟩:=fG.1 f;exact(B j hj).2
  have av:∀x∈D.map (·.data),x.length=128:=λx f=>by
   rw[<-o.D,FZ]at f;obtain⟨y,hy,rfl⟩:=fG.1 f;exact Z y hy
  have au:∀i,(xf (q.reads.map (ij L)++(D.take i).map (·.data))).length=128:=λi=>nV λx f=>(l0.1 f).elim (bp x) λh=>av x (by rw[List.map_take]at h;exact Tl h);rintro⟨i,⟨xo,xc⟩,k⟩ N;dsimp only at N⊢;refine w ?_;refine zk ?_ ?_<;>intro t
  ·
   have a:i<q.aA.length:=by have:=cI t;omega
   clear t;have h:=Q.of i a;obtain⟨mm,bk⟩:=RA h.1;have v:=h.2.2.2.2;have ba:D[i]'zO=q.aA[i].D:=by have:=JB (λl=>l[i]?) o.D;rw[law,fL a,fL (show i<D.length by omega)]at this;exact(HF this).symm
   have F:xf (q.reads.map (ij L)++(D.take (i+1)).map (·.data))=eP (xf (q.reads.map (ij L)++(D.take i).map (·.data))) q.aA[i].d.data:=by rw[nZ (show i<D.length by omega),jv,List.map_singleton,<-lx,Cw,ba]
   have br:=au i;have bE:(q.aA.take i).length=i:=by rw[j1];omega
   have bb:=C (bL (xo,xc) (q.aA.take i)::oo sp M (xf (q.reads.map (ij L)++(D.take i).map (·.data))) k (G4 n11 K J q p m c s R)) zm zm zm;obtain⟨qa,G⟩:∃x,q.po=some x:=by cases e:q.po with|none=>have:=X e;omega|some x=>exact⟨x,rfl⟩
   have ag:=bb.aA.gz;rw[G]at ag;rw[show(Value.slice q.po q.aA.length q.pc)= .slice (some qa) q.aA.length q.pc by rw[G]];refine w ?_;refine VO.pure rfl rfl (.gY ah rfl rfl ag (ke q.aA i a) rfl) rfl ?_;refine zw ?_;refine ay.aB sb_207 rfl ?_;intro n20;refine zl (q.aA[i].cells) (dI _) ?_;refine VO.re 78 (.slice q.aA[i].d.ao 128 q.aA[i].d.cap) rfl (by show Value.slice _ _ _=_;rw[v]) ?_;refine zr (s:=Cv (R:=Row n20 207 q.aA[i].cells::bL (xo,xc) (q.aA.take i)::G4 n11 K J q p m c s R) sp M _ q.aA[i].d.data k br v λT I=>v▸(C _ zm zm zm).aA.each _ (fF a)) (h:=?_);intro I _;rw[<-F];refine w ?_;refine VO.re 82 (ii (mm:Nat)) rfl (by rw[bk]) ?_;refine w ?_;refine VO.pure rfl rfl (af.rZ ah rfl rfl (hd.aR (ae.drop (ae.drop (ae.drop (ae.drop G4.aR))))) (show(D8 m)[mm]?=some (.bool false)by rw[Oe,lam zO])) rfl ?_;refine zw ?_;refine ay.buildSlice (cs:=q.aA[i].cells) st_126 rfl rfl (by simp[Value.cells]) (by simp[Value.cells]) (by decide) rfl ?_;intro nb;refine zq ?_;refine ay.cg st_126 rfl rfl zh zm rfl (dI _) (by simp only[maxLen];omega) zO rfl ?_;intro n g;refine w ?_;refine VE.round (i+1,(n,g),I) a (by dsimp only;omega) ⟨rfl,rfl,rfl,b7 rfl (by dsimp only;rw[nZ a,c9,ie]),rfl,rfl,b7 rfl (by congr 1),trivial⟩ ?_;dsimp only;unfold bL;rw[nZ a,im,c9,ie];exact ae.re
  have E:i=q.aA.length:=by have:=dx t;omega
  clear t;have A:=au i;have hS:xf (q.reads.map (ij L)++(D.take i).map (·.data))=uT L q.reads D:=by unfold uT;rw[qy zO]
  rw[hS]at A⊢;rw[E,SP];obtain⟨S,bf⟩:∃S,uT L q.reads D=S:=⟨_,rfl⟩;rw[bf]at A⊢;have bo:q.par<m:=by rw[o.par];exact bm
  refine w ?_;refine VO.pure rfl rfl (af.rZ ah rfl rfl (hd.aR (ae.drop (ae.drop (ae.drop G4.aR)))) (show(D8 m)[q.par]?=some (.bool false)by rw[Oe,lam bo])) rfl ?_;refine w ?_;refine zx [6,8] 9 [0,1,2,3,4,5,6,7,8,9,10] _ ?_;refine zr (s:=uU (R:=bL (xo,xc) q.aA::G4 n11 K J q p m c s R) sp M S k A) (h:=?_);intro u _;refine w ?_;refine VD.re 103 (aU.ei ⟨u.1,u.2,S⟩) rfl (by show _=Value.slice _ _ _;rw[A]) ?_;refine VD.take rfl rfl rfl (af.build sb_207 rfl (show aC _ _ _=some (aj.cells ⟨q.par,q.row,⟨u.1,u.2,S⟩⟩)by simp[aC,bR,Value.cells])) rfl ?_;refine zq ?_;refine ay.buildSlice (cs:=(aj.mk q.par q.row ⟨u.1,u.2,S⟩).cells) st_126 rfl rfl (by simp[Value.cells]) (by simp[Value.cells]) (by decide) rfl ?_;intro nb;refine⟨ae.re,?_⟩;refine zq ?_;refine ay.cg st_126 rfl rfl zh zm rfl (dI _) (by simp only[maxLen];omega) zO rfl ?_;intro n g;refine w ?_;obtain⟨e,he⟩:∃e:aj,e=⟨q.par,q.row,⟨u.1,u.2,S⟩⟩:=⟨_,rfl⟩;refine VO.re 107 (.slice n (q.aA++[e]).length g) rfl (by rw[c9,ie]) ?_;refine VO.aR (H':=bL (n,g) (q.aA++[e])::bX (q.aA++[e])::R) (λw z=>?_) ?_
  ·
   have h0:=(ae.re:ae W _ (Sl.Own 5 1 (.slice u.1 128 u.2) 128 (bytes S)::bX q.aA::Sl.Own 207 3 (.slice n (q.aA.length+1) g) (q.aA.length+1) (bg q.aA++(aj.mk q.par q.row ⟨u.1,u.2,S⟩).cells)::R)) w z;have h1:Sl.Holds W (aj.res e::bX q.aA::Sl.Own 207 3 (.slice n (q.aA.length+1) g) (q.aA.length+1) (bg q.aA++e.cells)::R) w:=by rw[he];unfold aj.res aU.res;dsimp only;rw[A];exact h0
   have U:=du (res:=aj.res) h1;unfold bL;rw[im,c9,ie];exact U.swap
  refine zr (s:=Ny (xp:=(n,g)) (R:=bX (q.aA++[e])::R) (λx f=>(l0.1 f).elim (λf=>by obtain⟨i,N,rfl⟩:=List.mem_iff_getElem.1 f;have:=Q.of i N;omega) (λf=>by rw[ju.1 f,he];dsimp only;omega)) (by simp) (by rw[c9,ie];omega)) (h:=?_);intro T P;refine w ?_;refine VE.done (T,n,g) rfl ?_ (by dsimp only;rw[P.length_eq,c9,ie]) (λw z=>(p9 (res:=aj.res) P.symm z.swap).swap);refine(P.map aj.D).trans (.of_eq ?_);rw[jv,o.D,List.map_singleton,he,<-o.par,<-o.row]
theorem fZ.nodup{m c s r:Nat}{l:List aj}(h:fZ m c s r l):(l.map λp=>p.av.toNat).Nodup:=by
  have e:∀j (b:j<l.length) i (a:i<l.length),i<j->l[i].av<l[j].av:=λj=>by
    induction j with
    |zero=>intro b i a q;omega
    |succ j k=>
      intro b i a q;have f:=h.inc j b;rcases w9 i j with g|g
      · have:=k zO i a g;omega
      · obtain rfl:i=j:=by omega
        exact f
  rw[List.nodup_iff_pairwise_ne,List.pairwise_iff_getElem];intro i j a b d;rw[ew]at a b;have:=e j b i a d;have:=h.of i a;rw[Jz,Jz];omega
theorem PY{m c s r md:Nat}{l:List aj}{L:List aU}{V n:Nat->Nat->List UInt8}(h:fZ m c s r l)(N:3<=m)(v:md=xw m l.length)(J:∀i∈lD m (eD m (r/c)) ((l.map aj.D).map (·.av)) md,ij L i=V i r)(K:∀k,k<m->(V k r).length=128)(d:∀k,k<m->(n k r).length=128)
  (Q:ia (λk=>V k r) m=dC)(R:ia (λk=>n k r) m=dC)(T:∀p∈l,p.d.data=n p.av.toNat r)(O:∀k:Nat,k<m->k≠eD m (r/c)->(∀p∈l,p.av≠(k:Int))->n k r=V k r):
  uT L (lD m (eD m (r/c)) ((l.map aj.D).map (·.av)) md) (l.map aj.D)=n (eD m (r/c)) r:=by
 have a:=jV N (r/c);have M:=h.mx N;obtain⟨par,t⟩:∃p,eD m (r/c)=p:=⟨_,rfl⟩;have D:∀p∈l,0<=p.av/\p.av<m/\p.av≠(par:Nat)/\p.d.data.length=128:=λp a=>by
  obtain⟨i,b,rfl⟩:=List.mem_iff_getElem.1 a;have:=h.of i b;rw[t]at this;exact⟨this.1,this.2.1,this.2.2.2.1,this.2.2.2.2⟩
 rw[t]at a O J⊢;obtain⟨G,A⟩:∃G,(l.map λp=>p.av.toNat)=G:=⟨_,rfl⟩;have z:=h.nodup;rw[A]at z;have o:∀i∈G,i<m/\i≠par:=λi b=>by
  rw[<-A]at b;obtain⟨p,a,rfl⟩:=fG.1 b;have:=D p a;omega
 have S:G.length=l.length:=by rw[<-A,ew]
 have B:∀i:Nat,(((l.map aj.D).map (·.av)).any λp=>p==(i:Int))=G.contains i:=λi=>by
  rw[Bool.eq_iff_iff,List.any_eq_true,List.contains_iff_mem,<-A,FZ];simp only[fG,beq_iff_eq];constructor
  ·
   rintro⟨x,⟨p,a,rfl⟩,e⟩;exact⟨p,a,by have:p.av=(i:Int):=e;omega⟩
  ·
   rintro⟨p,a,e⟩;have:=D p a;exact⟨_,⟨p,a,rfl⟩,by show p.av=(i:Int);omega⟩
 have C:∀i:Nat,((i:Int)==(par:Int))=(i==par):=λi=>by rw[Bool.eq_iff_iff,beq_iff_eq,beq_iff_eq];omega
 obtain⟨rs,E⟩:∃rs,lD m par ((l.map aj.D).map (·.av)) md=rs:=⟨_,rfl⟩;rw[E]at J⊢;have u:rs=(List.range m).filter (λi=>!(i==par||G.contains i))\/rs=(List.range m).filter (λi=>i==par||G.contains i):=by
  rw[<-E];unfold lD Eo MO;simp only[B,bne,C,Bool.not_or];split
  · exact .inl rfl
  ·
   split
   · exact .inr rfl
   ·
    refine .inl ?_;have I:G.length+1=m:=by
     unfold xw at v;split at v
     · omega
     · split at v<;>omega
    have:=Nd a z o I;simpa only[Bool.not_or]using this.symm
 have P:uT L rs (l.map aj.D)=xf (rs.map (λi=>V i r)++G.map λi=>n i r):=by
  unfold uT;rw[show rs.map (ij L)=rs.map (λi=>V i r)from Mx J,<-A,FZ,FZ];congr 2;exact Mx λp a=>T p a
 have H:=PZ (f:=λi=>V i r) (g:=λi=>n i r) a z o K (λi b=>d i (o i b).1) Q u P;obtain⟨x,F⟩:∃x,uT L rs (l.map aj.D)=x:=⟨_,rfl⟩;rw[F]at H⊢;have j:x.length=128:=by
  rw[<-F,P];refine nV λy W=>(l0.1 W).elim (λq=>?_) λq=>?_
  ·
   obtain⟨i,b,rfl⟩:=fG.1 q;refine K i ?_;rcases u with e|e<;>rw[e,KO,HC]at b<;>exact b.1
  ·
   obtain⟨i,b,rfl⟩:=fG.1 q;exact d i (o i b).1
 rw[jQ (g:=λi=>if i=par then x else n i r) λi b=>by
  by_cases e:i=par
  · rw[lam e,lam e]
  ·
   rw[aE e,aE e];split
   · rfl
   ·
    rename_i q;refine(O i b e λp a U=>q ?_).symm;rw[<-A];exact fG.2 ⟨p,a,by omega⟩,sE d a j,R]at H
 have X:eP dC (n par r)=n par r:=by rw[k6,eg (d par a)]
 rw[X]at H;exact(E3 (d par a) j H).symm
structure mX where
  r:Nat
  po:Option Addr
  pc:Nat
  l:List cQ
  xo:Option Addr
  xc:Nat
  out:List cu
  pa:Option Addr
  pp:Nat
  ps:List aj
abbrev mX.cells(x:mX):List Value:=[ip x.r,.slice x.po x.l.length x.pc,.slice x.xo x.out.length x.xc,.slice x.pa x.ps.length x.pp]
abbrev mX.jk(x:mX)(l:List aj)(y:Option Addr×Nat):mX:={x with pa:=y.1,pp:=y.2,ps:=l}
abbrev gU(a:Nat)(x:mX)(R:List ab):List ab:=Row a 256 x.cells::bL (x.pa,x.pp) x.ps::bX x.ps::R
structure Fe(m c s row:Nat)(V V':Nat->Nat->List UInt8)(l:List aj):Prop where
  n:∀k,k<m->(V' k row).length=128
  par:ia (λk=>V' k row) m=dC
  is:∀p∈l,p.d.data=V' p.av.toNat row
  KT:∀k:Nat,k<m->k≠eD m (row/c)->(∀p∈l,p.av≠(k:Int))->V' k row=V k row
abbrev QX(n7 c b:Nat)(p:dO)(a:Nat)(x:mX)(Y:eA)(fr:List Int)(D:aw)(R:List ab):List ab:=
  Row n7 375 p.cells::bL (p.po,p.pc) p.aA::bX p.aA::jC (p.ro,p.rc) p.reads::Sl.Own 4 1 (.slice (ik b) Y.m Y.m) Y.m (D8 Y.m)::Row c 172 cD::gU a x (de x.r Y fr (al Y.b D::R))
structure Qm(m c row:Nat)(V':Nat->Nat->List UInt8)(l l':List aj):Prop where
  D:(l'.map aj.D).Perm (l.map aj.D++[⟨(eD m (row/c):Nat),row,V' (eD m (row/c)) row⟩])
theorem LU{L:List aU}{k:Nat}{e:aU}(h:k<L.length)(j:Nat):ij (L.set k e) j=if j=k then e.data else ij L j:=by
 unfold ij;rw[List.getElem?_set];by_cases q:k=j
 · subst q;rw[lam rfl,lam h,lam rfl];rfl
 · rw[aE q,aE (Ne.symm q)]
theorem Hn{Y:eA}{fr:List Int}{K:Kd}{V:Nat->Nat->List UInt8}(h:Data Y fr K V)(d:ak):Data Y fr (ez K Y.m d) V:=
 ⟨h.len,h.one,h.mu,h.par,h.wait,λk row a c b=>by rw[dH _ _ (Nat.ne_of_lt a)];exact h.is k row a c b,h.y0,h.y4⟩
end Go.Proofs.YtldolcbbmnmjoaaGreat
namespace Go.Proofs.YtldolcbbmnmjoaaGreat
open Go.RowKit Go.Sl
attribute [local irreducible] Sl.Own
def ob(S:List (List bK))(k row:Nat):Option (List UInt8):=(S.flatten.reverse.find? λp=>decide (p.av=(k:Int)/\p.row=(row:Int))).map (·.data)
theorem FY(S:List (List bK))(l:List aj)(k row:Nat):ob (S++[l.map aj.D]) k row=(cq l.reverse k row).or (ob S k row):=by
 unfold ob cq;rw[List.flatten_append,List.flatten_singleton,SR,List.find?_append,<-List.map_reverse,List.find?_map];have e:((λp:bK=>decide (p.av=(k:Int)/\p.row=(row:Int))) ∘ aj.D)=sH k row:=rfl;rw[e];cases List.find? (sH k row) l.reverse<;>rfl
def vV(K:Kd)(fr:List Int)(m rows:Nat)(S:List (List bK))(V:Nat->Nat->List UInt8):Prop:=∀k row a,k<m->row<rows->¬gB fr k row->K k=some a->(ob S k row=none->Sr a (1+row) (V k row))/\∀d,ob S k row=some d->d=V k row
def Uq(m rows:Nat)(S:List (List bK)):Prop:=∀p∈S.flatten,(0<=p.av/\p.av<(m:Int))/\(0<=p.row/\p.row<(rows:Int))/\p.data.length=128
structure iu where
  Y:eA
  D:aw
  K:Kd
  kj:ak
  v:bT
  x:fY
  base:Nat
  c:Nat
structure iu.okz(s:iu)(wp:Nat)(fr:List Int)(V:Nat->Nat->List UInt8):Prop where
  Y:s.Y.ok
  w:s.Y.w=ik wp
  F:Data s.Y fr s.K V
  nil:s.Y.wl=[]->s.Y.wo=none/\s.Y.wc=0
  k:s.K s.Y.m=some s.kj
  slot:s.v.slot=(s.Y.m:Int)
  live:dt s.v s.kj s.base s.x
  base:1<=s.base
  ep:s.v.epoch<=s.c
  nx:s.v.next<=s.c
  mx:s.Y.wl.length<=1023
  KU:∀p∈s.Y.wl,p.Of s.Y/\p.d.data=V p.av.toNat p.row.toNat
  stay:vV s.K fr s.Y.m (s.Y.s*s.Y.c) s.x.cy V
  inr:Uq s.Y.m (s.Y.s*s.Y.c) s.x.cy
structure iu.ok(s:iu)(n wp:Nat)(fr:List Int)(V:Nat->Nat->List UInt8):Prop extends s.okz wp fr V where
  q:Bq s.D n s.K s.c
abbrev eA.fix(Y:eA):eA:={Y with wo:=none,wc:=0,wl:=[],sl:=false}
structure iu.to(s t:iu):Prop where
  fix:t.Y.fix=s.Y.fix
  size:t.v.size=s.v.size
  z:∀i kd,s.K i=some kd->∃kd',t.K i=some kd'/\(i≠s.Y.m->kd'.last.length=kd.last.length)/\∀x,Sr kd 0 x->Sr kd' 0 x
  c:s.c<=t.c
theorem iu.to.refl(s:iu):s.to s:=⟨rfl,rfl,λi a e=>⟨a,e,λ_=>rfl,λ_ h=>h⟩,eI _⟩
theorem iu.to.trans{a b c:iu}(h:a.to b)(g:b.to c):a.to c:=⟨g.fix.trans h.fix,g.size.trans h.size,λi l e=>by
 obtain⟨j,d,m,z1⟩:=h.z i l e;obtain⟨k,f,o,z2⟩:=g.z i j d;exact⟨k,f,λq=>(o (by rw[(JB eA.m h.fix:)];exact q)).trans (m q),λx q=>z2 x (z1 x q)⟩,RB h.c g.c⟩
section
variable{s t:iu}{n wp:Nat}{fr:List Int}{V V':Nat->Nat->List UInt8}
theorem iu.to.m(h:s.to t):t.Y.b=s.Y.b/\t.Y.m=s.Y.m/\t.Y.c=s.Y.c/\t.Y.s=s.Y.s/\t.Y.w=s.Y.w/\t.Y.lazy=s.Y.lazy/\t.Y.fa=s.Y.fa:=⟨(JB eA.b h.fix:),(JB eA.m h.fix:),(JB eA.c h.fix:),(JB eA.s h.fix:),(JB eA.w h.fix:),(JB eA.lazy h.fix:),(JB eA.fa h.fix:)⟩
theorem iu.ok.lO(h:s.ok n wp fr V)(a:s.c<=1000000):dJ s.v.epoch s.v.next:=⟨by have:=h.ep;omega,by have:=h.live.next;have:=h.base;omega,by have:=h.nx;omega⟩
theorem iu.okz.uD(h:s.okz wp fr V):kq s.Y fr s.K:=⟨h.F.len,λk row b d a=>by obtain⟨f,e,l,_⟩:=h.F.is k row b d a;exact⟨f,e,l⟩,λp c=>(h.KU p c).1,by have:=h.mx;omega,h.nil⟩
theorem iu.okz.jr(h:s.okz wp fr V){D':aw}{kj':ak}{v':bT}{x':fY}{b' c':Nat}(m:v'.slot=s.v.slot)(i:dt v' kj' b' x')(b:1<=b')(f:v'.epoch<=c')(j:v'.next<=c')(o:vV s.K fr s.Y.m (s.Y.s*s.Y.c) x'.cy V)(g:Uq s.Y.m (s.Y.s*s.Y.c) x'.cy):
  ({s with D:=D',K:=ez s.K s.Y.m kj',kj:=kj',v:=v',x:=x',base:=b',c:=c'}:iu).okz wp fr V:=
 ⟨h.Y,h.w,Hn h.F kj',h.nil,eZ _ _ _,m.trans h.slot,i,b,f,j,h.mx,h.KU,λk row p a l d e=>o k row p a l d (by dsimp only at e a;rwa [dH _ _ (Nat.ne_of_lt a)]at e),g⟩
theorem iu.to.jr{D':aw}{kj':ak}{v':bT}{x':fY}{b' c':Nat}(d:s.K s.Y.m=some s.kj)(f:v'.size=s.v.size)(b:s.c<=c')(a:∀z,Sr s.kj 0 z->Sr kj' 0 z):
  s.to {s with D:=D',K:=ez s.K s.Y.m kj',kj:=kj',v:=v',x:=x',base:=b',c:=c'}:=⟨rfl,f,λi g e=>by
 by_cases q:i=s.Y.m
 ·
  subst q;rw[d]at e;cases e;exact⟨kj',eZ _ _ _,λq=>lcs rfl q,a⟩
 · exact⟨g,by dsimp only;rw[dH _ _ q];exact e,λ_=>rfl,λ_ h=>h⟩,b⟩
theorem iu.okz.hJ(h:s.okz wp fr V){D':aw}{K':Kd}{c':Nat}(r:fA (sI fr s.Y.wl) s.K K')(z:s.c<=c'):({s with Y:=s.Y.done,D:=D',K:=K',c:=c'}:iu).okz wp fr V/\s.to {s with Y:=s.Y.done,D:=D',K:=K',c:=c'}:=by
  have j:∀k row d,sI fr s.Y.wl k (1+row)=some d->d=V k row:=λk row d e=>by
    unfold sI at e;split at e
    · cases e
    · obtain⟨p,o,F,G,H⟩:=jP e
      rw[HH]at o
      rw[<-H,(h.KU p o).2,F,G];congr 1;omega
  refine⟨⟨⟨h.Y.m,h.Y.c,h.Y.s⟩,h.w,⟨h.F.len,h.F.one,h.F.mu,h.F.par,λk row d e=>(by cases e),λk row A C v=>?_,λp o=>(by cases o),c7 _⟩,λ_=>⟨rfl,rfl⟩,?_,h.slot,h.live,h.base,RB h.ep z,RB h.nx z,c7 _,λp o=>(by cases o),λk row u A C v e=>?_,h.inr⟩,⟨rfl,rfl,λi u e=>?_,z⟩⟩
  · obtain⟨u,e,L,l⟩:=h.F.is k row A C v
    obtain⟨f,e',b⟩:=(r k).2 u e
    refine⟨f,e',by rw[b.len];exact L,λ_=>?_⟩
    rw[b.look]
    cases m:sI fr s.Y.wl k (1+row)with
    |some d=>exact j k row d m
    |none=>
      refine l ?_
      unfold sI at m
      have B:¬(1+row=0\/gB fr k (1+row-1)):=by
        rw[Nat.add_sub_cancel_left];rintro(g|g)
        · omega
        · exact v g
      rw[aE B,Nat.add_sub_cancel_left]at m
      unfold cq at m⊢
      rw[Option.map_eq_none_iff,Tm]at m⊢
      exact λx M=>m x (HH.2 M)
  · obtain⟨f,e',b⟩:=(r s.Y.m).2 s.kj h.k
    rw[b.same λa=>h.uD.none a]at e'
    exact e'
  · have e:K' k=some u:=e
    cases y:s.K k with
    |none=>rw[(r k).1 y]at e;cases e
    |some E=>
      obtain⟨f,e',b⟩:=(r k).2 E y
      rw[e']at e
      cases e
      obtain⟨I,J⟩:=h.stay k row E A C v y
      exact⟨λg=>b.sr _ _ (λd q=>j k row d q) (I g),J⟩
  · obtain⟨f,e',b⟩:=(r i).2 u e
    exact⟨f,e',λ_=>b.len,λx q=>b.sr 0 x (λd g=>by unfold sI at g;rw[lam (.inl rfl)]at g;cases g) q⟩
end
end Go.Proofs.YtldolcbbmnmjoaaGreat
namespace Go.Proofs.YtldolcbbmnmjoaaGreat
open Go.RowKit Go.Sl
attribute [local irreducible] Sl.Own
section
variable{s t:iu}{n wp:Nat}{fr:List Int}{V V':Nat->Nat->List UInt8}
abbrev RH(v:bT)(l:List aj):bT:={v with sure:=true,log:=some ⟨2* (l.map aj.D).length+1,(fB v.epoch v.next (l.map aj.D)).enc.2⟩}
abbrev su(v:bT)(l:List aj):bT:={v with used:=v.used+(2* (l.map aj.D).length+1),next:=v.next+1,sure:=false,log:=none}
theorem yn{l:List aj}{k row:Int}:cq l.reverse k row=none↔cq l k row=none:=by
 unfold cq;rw[Option.map_eq_none_iff,Option.map_eq_none_iff,Tm,Tm];exact⟨λh x a=>h x (HH.2 a),λh x a=>h x (HH.1 a)⟩
structure Fc(Y:eA)(V V':Nat->Nat->List UInt8)(l:List aj):Prop where
  n:∀k row,k<Y.m->row<Y.s*Y.c->(V' k row).length=128
  par:∀row,row<Y.s*Y.c->ia (λk=>V' k row) Y.m=dC
  of:∀p∈l,p.Of Y/\p.d.data=V' p.av.toNat p.row.toNat
  KT:∀k row:Nat,k<Y.m->row<Y.s*Y.c->cq l k row=none->V' k row=V k row
theorem Fc.at{Y:eA}{l:List aj}(h:Fc Y V V' l){k row:Nat}{d:List UInt8}(e:cq l k row=some d):d=V' k row:=by
 obtain⟨p,f,a,b,c⟩:=jP e;rw[<-c,(h.of p f).2,a,b];rfl
theorem Fc.UC{Y:eA}{l:List aj}(h:Fc Y V V' l){k row:Nat}{d:List UInt8}(e:cq l.reverse k row=some d):d=V' k row:=by
 obtain⟨p,f,a,b,c⟩:=jP e;rw[<-c,(h.of p (HH.1 f)).2,a,b];rfl
abbrev eA.R2(Y:eA)(ao:Option Addr)(cap:Nat)(l:List aj):eA:={Y with wo:=ao,wc:=cap,wl:=l,sl:=true}
theorem iu.okz.pO(h:s.okz wp fr V){D':aw}{K':Kd}{kj':ak}(P:dt s.v.emp kj' s.v.next ⟨[],0,none⟩)(O:lQ fr s.Y s.K K' s.kj kj'):
  ({s with Y:=s.Y.done,D:=D',K:=K',kj:=kj',v:=s.v.emp,x:=⟨[],0,none⟩,base:=s.v.next,c:=s.c+s.Y.wl.length}:iu).okz wp fr V/\s.to {s with Y:=s.Y.done,D:=D',K:=K',kj:=kj',v:=s.v.emp,x:=⟨[],0,none⟩,base:=s.v.next,c:=s.c+s.Y.wl.length}:=by
 obtain⟨J,u,H,rfl,N⟩:=O;have R:u s.Y.m=some J:=by
  obtain⟨S,a,b⟩:=(H s.Y.m).2 J (eZ _ _ _);rw[a,b.same λa=>h.uD.none a]
 have F:fA (sI fr s.Y.wl) s.K (ez u s.Y.m s.kj):=λi=>by
  by_cases q:i=s.Y.m
  ·
   subst q;exact⟨λg=>(by rw[h.k]at g;cases g),λk g=>⟨s.kj,eZ _ _ _,by rw[h.k]at g;cases g;exact⟨rfl,λa=>by rw[h.uD.none a];rfl,λa x _ z=>z,λ_=>rfl⟩⟩⟩
  ·
   have:=H i;rw[dH _ _ q]at this;rw[dH _ _ q];exact this
 obtain⟨r,t2⟩:=h.hJ (D':=D') F (Nat.le_add_right s.c s.Y.wl.length);have j:∀i,i≠s.Y.m->ez (fO fr s.Y.m u) s.Y.m kj' i=fO fr s.Y.m (ez u s.Y.m s.kj) i:=λi q=>by
  rw[dH _ _ q];unfold fO;rw[dH _ _ q]
 have m:∀k row,¬gB fr k row->¬gB fr k 0:=λk row g q=>g ⟨q.1,by have:=q.2;omega⟩;have f:=r.F;refine⟨⟨r.Y,r.w,⟨f.len,f.one,f.mu,f.par,f.wait,λk row A C B=>?_,f.y0,f.y4⟩,r.nil,eZ _ _ _,h.slot,P,by have:=h.live.next;have:=h.base;dsimp only;omega,r.ep,r.nx,r.mx,r.KU,λk row y A C B e=>⟨λ_=>?_,λd g=>by cases g⟩,λp Q=>(TW Q).elim⟩,⟨rfl,rfl,λi y e=>?_,Nat.le_add_right _ _⟩⟩
 ·
  obtain⟨y,e,l,g⟩:=f.is k row A C B;refine⟨y.settle λ_=>true,?_,by rw[dM];exact l,λw=>?_⟩
  ·
   dsimp only;rw[j k (Nat.ne_of_lt A)];unfold fO;have o:k<s.Y.m:=A;rw[lam ⟨o,m k row B⟩];have e:ez u s.Y.m s.kj k=some y:=e;rw[e];rfl
  ·
   rw[l9 (by have:row<s.Y.s*s.Y.c:=C;have:1+s.Y.s*s.Y.c<=y.last.length:=l;omega)];exact g w
 ·
  have o:k<s.Y.m:=A;obtain⟨I,E,l,g⟩:=f.is k row A C B;have e:ez (fO fr s.Y.m u) s.Y.m kj' k=some y:=e;rw[j k (Nat.ne_of_lt o)]at e;unfold fO at e;have E:ez u s.Y.m s.kj k=some I:=E;rw[lam ⟨o,m k row B⟩,E]at e;cases e;rw[<-g rfl];exact Sr.vB (by have:row<s.Y.s*s.Y.c:=C;have:1+s.Y.s*s.Y.c<=I.last.length:=l;omega)
 ·
  by_cases q:i=s.Y.m
  ·
   subst q;rw[h.k]at e;cases e;exact⟨kj',eZ _ _ _,λq=>lcs rfl q,N⟩
  ·
   obtain⟨G,e',L,M⟩:=t2.z i y e;dsimp only at e'⊢;rw[j i q];unfold fO;split
   · exact⟨_,by rw[e'];rfl,λg=>by rw[dM];exact L g,λx g=>(M x g).settle _⟩
   · exact⟨G,e',L,M⟩
theorem iu.ok.pO(h:s.ok n wp fr V)(e:s.c<=1000000){D':aw}{K':Kd}{kj':ak}(d:Bq D' n K' (s.c+s.Y.wl.length))(f:K' s.Y.m=some kj')(b:dt s.v.emp kj' s.v.next ⟨[],0,none⟩)(a:lQ fr s.Y s.K K' s.kj kj'):
  ({s with Y:=s.Y.done,D:=D',K:=K',kj:=kj',v:=s.v.emp,x:=⟨[],0,none⟩,base:=s.v.next,c:=s.c+s.Y.wl.length}:iu).ok n wp fr V/\s.to {s with Y:=s.Y.done,D:=D',K:=K',kj:=kj',v:=s.v.emp,x:=⟨[],0,none⟩,base:=s.v.next,c:=s.c+s.Y.wl.length}:=
 ⟨⟨(h.tookz.pO b a).1,d⟩,(h.tookz.pO (D':=D') b a).2⟩
end
end Go.Proofs.YtldolcbbmnmjoaaGreat
namespace Go.Proofs.YtldolcbbmnmjoaaGreat
open Go.RowKit Go.Sl
attribute [local irreducible] Sl.Own
def rowQ(l:List aj):Nat:=(l.headD ⟨0,0,BM⟩).row.toNat
structure iV(Y:eA)(V':Nat->Nat->List UInt8)(out:List cu)(ps:List aj):Prop where
  of:∀p∈ps,p.Of Y/\p.d.data=V' p.av.toNat p.row.toNat
  n:ps.length=kz out
  all:∀q∈out,∀row:Nat,fZ Y.m Y.c Y.s row q.aA->∀k:Nat,(k=eD Y.m (row/Y.c)\/∃p∈q.aA,p.av=(k:Int))->∃p∈ps,p.av=(k:Int)/\p.row=(row:Int)
  nd:(ps.map aj.place).Nodup
  src:∀p∈ps,∃q∈out,p.row=(rowQ q.aA:Nat)
structure Ol(Y:eA)(V V':Nat->Nat->List UInt8)(out:List cu):Prop where
  n:∀k row,k<Y.m->row<Y.s*Y.c->(V' k row).length=128
  par:∀row,row<Y.s*Y.c->ia (λk=>V' k row) Y.m=dC
  rows:∀q∈out,∃row:Nat,fZ Y.m Y.c Y.s row q.aA/\Fe Y.m Y.c Y.s row V V' q.aA
  KT:∀k row:Nat,k<Y.m->row<Y.s*Y.c->(∀q∈out,fZ Y.m Y.c Y.s row q.aA->k≠eD Y.m (row/Y.c)/\∀p∈q.aA,p.av≠(k:Int))->V' k row=V k row
theorem fZ.B9{m c s r:Nat}{l:List aj}(h:fZ m c s r l){p:aj}(b:p∈l):(0<=p.av/\p.av<m)/\p.row=r/\p.d.data.length=128:=by
 obtain⟨i,a,rfl⟩:=List.mem_iff_getElem.1 b;have:=h.of i a;exact⟨⟨this.1,this.2.1⟩,this.2.2.1,this.2.2.2.2⟩
theorem rowQ_of{m c s row:Nat}{l:List aj}(h:fZ m c s row l):rowQ l=row:=by
 cases l with
 |nil=>exact lcs rfl h.ne
 |cons p r=>show p.row.toNat=row;rw[(h.B9 (.head _)).2.1];rfl
theorem fZ.rises{m c s r:Nat}{l:List aj}(h:fZ m c s r l):∀j (b:j<l.length) i (a:i<j),(l[i]'(Nat.lt_trans a b)).av<l[j].av
  |0,_,_,a=>lcs a (Nat.not_lt_zero _)
  |j+1,b,i,a=>by
    have d:=h.inc j b;by_cases e:i=j
    · subst e;exact d
    · have:=h.rises j (by omega) i (by omega);omega
theorem fZ.nd{m c s r:Nat}{l:List aj}(h:fZ m c s r l)(b:List UInt8):((l.map aj.D++[(⟨(eD m (r/c):Nat),(r:Int),b⟩:bK)]).map λd:bK=>(d.av,d.row)).Nodup:=by
 rw[jv,FZ,List.nodup_append];refine⟨?_,by simp,λa n b g e=>?_⟩
 ·
  rw[List.Nodup,List.pairwise_map,List.pairwise_iff_getElem];intro i j k o f e;have:=h.rises j o i f;have:=JB Prod.fst e;dsimp only[Function.comp,aj.D]at this;omega
 ·
  obtain⟨p,q,rfl⟩:=fG.1 n;rw[List.map_singleton,ju]at g;rw[g]at e;obtain⟨i,k,rfl⟩:=List.mem_iff_getElem.1 q;exact(h.of i k).2.2.2.1 (JB Prod.fst e)
theorem iV.step{Y:eA}{V r:Nat->Nat->List UInt8}{out:List cu}{ps C:List aj}{q:cu}{row:Nat}(h:iV Y r out ps)(K:3<=Y.m)(n:fZ Y.m Y.c Y.s row q.aA)(I:Fe Y.m Y.c Y.s row V r q.aA)(B:Qm Y.m Y.c row r q.aA C)(z:∀u∈out,rowQ u.aA≠row):iV Y r (out++[q]) (ps++C):=by
 have A:=jV K (row/Y.c);have x:∀p∈C,(∃m∈q.aA,m.D=p.D)\/p.D=⟨(eD Y.m (row/Y.c):Nat),row,r (eD Y.m (row/Y.c)) row⟩:=λp i=>by
  have:=B.D.subset (List.mem_map_of_mem i);rcases l0.1 this with g|g
  · obtain⟨m,f,e⟩:=fG.1 g;exact .inl ⟨m,f,e⟩
  · exact .inr (ju.1 g)
 have l:∀p∈C,p.row=(row:Int):=λp i=>by
  rcases x p i with⟨m,f,e⟩|e
  · rw[<-(show m.row=p.row from JB bK.row e)];exact(n.B9 f).2.1
  · exact JB bK.row e
 refine⟨λp i=>?_,?_,λu j c t k F=>?_,?_,λp i=>?_⟩;rotate_left 3
 ·
  rw[jv,List.nodup_append];refine⟨h.nd,?_,λa J b D e=>?_⟩
  ·
   have:=(B.D.map λd:bK=>(d.av,d.row)).nodup_iff.2 (n.nd _);rwa [FZ]at this
  ·
   obtain⟨p,i,rfl⟩:=fG.1 J;obtain⟨m,f,rfl⟩:=fG.1 D;obtain⟨u,j,o⟩:=h.src p i;have s:=l m f;have v:p.row=m.row:=JB Prod.snd e;exact z u j (by omega)
 ·
  rcases l0.1 i with g|g
  ·
   obtain⟨u,j,e⟩:=h.src p g;exact⟨u,List.mem_append_left _ j,e⟩
  · exact⟨q,List.mem_append_right _ (.head _),by rw[l p g,rowQ_of n]⟩
 ·
  rcases l0.1 i with g|g
  · exact h.of p g
  ·
   rcases x p g with⟨m,f,e⟩|e
   ·
    obtain⟨o,s,v⟩:=KZ e;have:=n.B9 f;have G:=n.row;rw[o,s,v]at this;refine⟨⟨this.1,by rw[this.2.1];exact⟨Int.natCast_nonneg _,Int.ofNat_lt.2 G⟩,this.2.2⟩,?_⟩;rw[<-v,I.is m f,o,this.2.1];rfl
   ·
    have o:p.av=(eD Y.m (row/Y.c):Nat):=JB bK.av e;have s:p.row=(row:Nat):=JB bK.row e;have v:p.d.data=r (eD Y.m (row/Y.c)) row:=JB bK.data e;have G:=n.row;exact⟨⟨by rw[o];omega,by rw[s];exact⟨Int.natCast_nonneg _,Int.ofNat_lt.2 G⟩,by rw[v];exact I.n _ A⟩,by rw[v,o,s];rfl⟩
 ·
  have:=B.D.length_eq;rw[ew,c9,ew,ie]at this;rw[c9,h.n,this];unfold kz Ed;rw[jv,lcm,c9];simp;omega
 ·
  rcases l0.1 j with g|g
  ·
   obtain⟨p,i,e⟩:=h.all u g c t k F;exact⟨p,List.mem_append_left _ i,e⟩
  ·
   rw[ju.1 g]at t F;have H:c=row:=by
    have y:0<q.aA.length:=CD.2 n.ne;have a:=(n.B9 (fF y)).2.1;have b:=(t.B9 (fF y)).2.1;omega
   subst H;have E:∃d∈q.aA.map aj.D++[⟨(eD Y.m (c/Y.c):Nat),c,r (eD Y.m (c/Y.c)) c⟩],d.av=(k:Int)/\d.row=(c:Int):=by
    rcases F with e|⟨p,i,e⟩
    · exact⟨_,List.mem_append_right _ (.head _),by rw[e],rfl⟩
    · exact⟨p.D,List.mem_append_left _ (List.mem_map_of_mem i),e,(n.B9 i).2.1⟩
   obtain⟨d,E,o,s⟩:=E;obtain⟨p,i,rfl⟩:=fG.1 (B.D.symm.subset E);exact⟨p,List.mem_append_right _ i,o,s⟩
theorem iV.Uh{Y:eA}{V c:Nat->Nat->List UInt8}{out:List cu}{ps:List aj}(h:iV Y c out ps)(d:Ol Y V c out):Fc Y V c ps:=⟨d.n,d.par,h.of,λk row l m f=>d.KT k row l m λq j i=>by
 have b:∀p∈ps,¬(p.av=(k:Int)/\p.row=(row:Int)):=λp a e=>by
  unfold cq at f;rw[Option.map_eq_none_iff,Tm]at f;have:=f p a;simp[sH]at this;exact this e.1 e.2
 refine⟨λe=>?_,λp a e=>?_⟩
 · obtain⟨p,a,g⟩:=h.all q j row i k (.inl e);exact b p a g
 · obtain⟨p,a,g⟩:=h.all q j row i k (.inr ⟨p,a,e⟩);exact b p a g⟩
end Go.Proofs.YtldolcbbmnmjoaaGreat
namespace Go.Proofs.YtldolcbbmnmjoaaGreat
open Go.RowKit Go.Sl
attribute [local irreducible] Sl.Own
section
variable{α:Type}
def Du(P:List (Int×List (Int×α)))(r k:Int):Option α:=(fj P r).bind λes=>fj es k
theorem zV(P:List (Int×List (Int×α)))(r a:Int):fj (gK P r) a=if a=r then some ((fj P r).getD [])else fj P a:=by
  unfold gK;cases h:fj P r with
  |some es=>
    rw[Option.isSome_some,lam rfl];split
    · rename_i e;rw[e,h];rfl
    · rfl
  |none=>
    rw[Option.isSome_none,aE (by simp)];unfold fj at h⊢;rw[Option.map_eq_none_iff]at h;rw[List.find?_append];by_cases e:a=r
    · subst e;rw[lam rfl,h];simp
    · rw[aE e]
      cases List.find? (λx:Int×List (Int×α)=>decide (x.1=a)) P with
      |some x=>rfl
      |none=>simp[Ne.symm e]
theorem Hw(P:List (Int×List (Int×α)))(r k:Int)(v:α)(a:Int):fj (tV P r k v) a=(fj P a).map λes=>if a=r then mq es k v else es:=by
  unfold fj tV;rw[List.find?_map,qY,qY];have e:((λx:Int×List (Int×α)=>decide (x.1=a)) ∘ λs:Int×List (Int×α)=>(s.1,if s.1=r then mq s.2 k v else s.2))=λx=>decide (x.1=a):=rfl;rw[e];cases h:List.find? (λx:Int×List (Int×α)=>decide (x.1=a)) P with
  |none=>rfl
  |some x=>
    have:=List.find?_some h;simp only[decide_eq_true_eq]at this;simp[this]
theorem Mg(P:List (Int×List (Int×α)))(r k:Int)(v:α)(a b:Int):Du (sy P r k v) a b=if a=r/\b=k then some v else Du P a b:=by
 unfold Du sy;rw[Hw,zV];by_cases e:a=r
 ·
  subst e;rw[lam rfl,RD,lam rfl,Option.bind_some,Mf];by_cases q:b=k
  · rw[lam q,lam ⟨rfl,q⟩]
  ·
   rw[aE q,aE λh=>q h.2];cases fj P a with
   |none=>rfl
   |some es=>rfl
 ·
  rw[aE e,aE λh=>e h.1];cases fj P a with
  |none=>rfl
  |some es=>rw[RD,aE e]
end
def iG(m c:Nat)(l:List cQ)(r k:Int):Option (List UInt8):=(l.reverse.find? λp=>decide (((cJ m c p.dV).row:Int)=r/\((cJ m c p.dV).av:Int)=k)).map (·.d.data)
theorem FX(m c:Nat)(l:List cQ)(p:cQ)(r k:Int):iG m c (l++[p]) r k=if((cJ m c p.dV).row:Int)=r/\((cJ m c p.dV).av:Int)=k then some p.d.data else iG m c l r k:=by
 unfold iG;rw[SR,List.reverse_singleton,List.singleton_append,List.find?_cons];by_cases h:((cJ m c p.dV).row:Int)=r/\((cJ m c p.dV).av:Int)=k
 · rw[lam h,ky h];rfl
 · rw[aE h,gx h]
theorem wN(m c:Nat)(l:List cQ)(r k:Int):Du (kD m c l) r k=iG m c l r k:=by
  induction l using lH with
  |nil=>rfl
  |snoc l p a=>
    rw[jN,Mg,FX,a];by_cases h:((cJ m c p.dV).row:Int)=r/\((cJ m c p.dV).av:Int)=k
    · rw[lam h,lam ⟨h.1.symm,h.2.symm⟩]
    · rw[aE h,aE λg=>h ⟨g.1.symm,g.2.symm⟩]
theorem w6{m c:Nat}{l:List cQ}{r k:Int}{d:List UInt8}(h:iG m c l r k=some d):∃p∈l,((cJ m c p.dV).row:Int)=r/\((cJ m c p.dV).av:Int)=k/\p.d.data=d:=by
 unfold iG at h;obtain⟨p,a,e⟩:=Option.map_eq_some_iff.1 h;have:=List.find?_some a;simp only[decide_eq_true_eq]at this;exact⟨p,HH.1 (List.mem_of_find?_eq_some a),this.1,this.2,e⟩
def wj(m c k row:Nat):Nat:=row/c* ((m-1)*c)+((k+m-eD m (row/c)-1)%m*c+row%c)
theorem tz{m c st i o:Nat}(h:i<m-1)(b:o<c):cJ m c (st* ((m-1)*c)+(i*c+o))=⟨st,st*c+o,(eD m st+1+i)%m,eD m st⟩:=by
 have a:i*c+o<(m-1)*c:=by
  have:(i+1)*c<=(m-1)*c:=u0 c h;rw[Tk]at this;omega
 have d:(st* ((m-1)*c)+(i*c+o))/((m-1)*c)=st:=by rw[BG,Nat.add_mul_div_right _ _ zO,Nat.div_eq_of_lt a,PA]
 have e:(st* ((m-1)*c)+(i*c+o))% ((m-1)*c)=i*c+o:=by rw[BG,Nat.add_mul_mod_self_right,nE a]
 have f:(i*c+o)%c=o:=by rw[BG,Nat.add_mul_mod_self_right,nE b]
 have g:(i*c+o)/c=i:=by rw[BG,Nat.add_mul_div_right _ _ zO,Nat.div_eq_of_lt b,PA]
 unfold cJ;rw[d,e,f,g]
theorem Hf{m c:Nat}(g:3<=m)(f:1<=c)(b:Nat):∃st i o,i<m-1/\o<c/\b=st* ((m-1)*c)+(i*c+o):=by
 have a:0<(m-1)*c:=Nat.mul_pos zO f;refine⟨b/((m-1)*c),b% ((m-1)*c)/c,b% ((m-1)*c)%c,?_,qX _ zO,?_⟩
 · exact mo (w8 (qX _ a) (Nat.le_of_eq (Aj _ _)))
 ·
  have d:=Nat.div_add_mod b ((m-1)*c);have e:=Nat.div_add_mod (b% ((m-1)*c)) c;rw[Aj]at d e;omega
theorem mod_one{m a i:Nat}(b:a<m)(d:i<m-1):((a+1+i)%m≠a/\(a+1+i)%m<m)/\((a+1+i)%m+m-a-1)%m=i:=by
 rcases w9 (a+1+i) m with h|h
 ·
  rw[nE h];refine⟨⟨by omega,h⟩,?_⟩;rw[show a+1+i+m-a-1=i+m by omega,Nat.add_mod_right,nE zO]
 ·
  rw[Nat.mod_eq_sub_mod h,nE zO];refine⟨⟨by omega,by omega⟩,?_⟩;rw[show a+1+i-m+m-a-1=i by omega,nE zO]
theorem DX{m a k:Nat}(e:a<m)(b:k<m)(d:k≠a):(k+m-a-1)%m<m-1/\(a+1+(k+m-a-1)%m)%m=k:=by
 rcases w9 k a with h|h
 ·
  rw[nE (a:=k+m-a-1) zO];refine⟨by omega,?_⟩;rw[show a+1+(k+m-a-1)=k+m by omega,Nat.add_mod_right,nE b]
 ·
  rw[show k+m-a-1=(k-a-1)+m by omega,Nat.add_mod_right,nE (a:=k-a-1) zO];refine⟨by omega,?_⟩;rw[show a+1+(k-a-1)=k by omega,nE b]
theorem PX{c st o:Nat}(a:o<c):(st*c+o)/c=st/\(st*c+o)%c=o:=⟨by rw[BG,Nat.add_mul_div_right _ _ zO,Nat.div_eq_of_lt a,PA],by rw[BG,Nat.add_mul_mod_self_right,nE a]⟩
theorem u9{m c b:Nat}(d:3<=m)(k:1<=c):wj m c (cJ m c b).av (cJ m c b).row=b/\(cJ m c b).av≠eD m ((cJ m c b).row/c):=by
 obtain⟨st,i,o,a,e,rfl⟩:=Hf d k b;rw[tz a e];obtain⟨f,g⟩:=PX (st:=st) e;obtain⟨h,j⟩:=mod_one (jV d st) a;unfold wj;dsimp only;rw[f,g];exact⟨by rw[j],h.1⟩
theorem PT{m c k row:Nat}(f:3<=m)(g:1<=c)(e:k<m)(a:k≠eD m (row/c)):(cJ m c (wj m c k row)).av=k/\(cJ m c (wj m c k row)).row=row:=by
 obtain⟨b,d⟩:=DX (jV f (row/c)) e a;unfold wj;rw[tz b (qX _ zO)];exact⟨d,by have:=Nat.div_add_mod row c;rw[Aj]at this;exact this⟩
theorem Lx{m c s k row:Nat}(j:3<=m)(n:1<=c)(h:k<m)(a:k≠eD m (row/c))(l:row<s*c):wj m c k row<s*c* (m-1):=by
 obtain⟨d,_⟩:=DX (jV j (row/c)) h a;obtain⟨i,g⟩:∃i,(k+m-eD m (row/c)-1)%m=i:=⟨_,rfl⟩;unfold wj;rw[g]at d⊢;have o:=qX row (show 0<c by omega);have b:row/c+1<=s:=mo (by rw[Aj];exact l);have e:(row/c+1)* ((m-1)*c)<=s* ((m-1)*c):=u0 _ b;have f:(i+1)*c<=(m-1)*c:=u0 c d;rw[Tk,Nat.one_mul]at e f;rw[Nat.mul_assoc,Aj c];omega
def yZ(m c:Nat)(B:Nat->List UInt8)(row i:Nat):List UInt8:=if i=eD m (row/c)then dC else B (wj m c i row)
def fy(m c:Nat)(B:Nat->List UInt8)(k row:Nat):List UInt8:=if k=eD m (row/c)then ia (yZ m c B row) m else B (wj m c k row)
section
variable{m c s:Nat}{B B':Nat->List UInt8}
theorem ES(f:3<=m)(d:1<=c)(a:∀b,b<s*c* (m-1)->(B b).length=128){row:Nat}(g:row<s*c)(i:Nat)(e:i<m):(yZ m c B row i).length=128:=by
 unfold yZ;split
 · simp
 · rename_i h;exact a _ (Lx f d e h g)
theorem ET(e:3<=m)(d:1<=c)(a:∀b,b<s*c* (m-1)->(B b).length=128)(k row:Nat)(j:k<m)(f:row<s*c):(fy m c B k row).length=128:=by
 unfold fy;split
 · exact pJ λi g=>ES e d a f i g
 · rename_i h;exact a _ (Lx e d j h f)
theorem EU(f:3<=m)(l:1<=c)(j:∀b,b<s*c* (m-1)->(B b).length=128)(row:Nat)(o:row<s*c):ia (λk=>fy m c B k row) m=dC:=by
 have n:=jV f (row/c);have e:=λi d=>ES f l j o i d;have a:=pJ e;rw[jQ (g:=λk=>if k=eD m (row/c)then ia (yZ m c B row) m else yZ m c B row k) λi d=>by
  unfold fy;split
  · rfl
  · rename_i h;unfold yZ;rw[aE h],sE e n a]
 rw[show yZ m c B row (eD m (row/c))=dC from lam rfl,eg a,k7 a]
theorem Qh(f:3<=m)(e:1<=c)(b:Nat):fy m c B (cJ m c b).av (cJ m c b).row=B b:=by
 obtain⟨a,d⟩:=u9 (b:=b) f e;unfold fy;rw[aE d,a]
def w5(l:List cQ)(b:Nat):Option (List UInt8):=(l.reverse.find? λp=>decide (p.dV=b)).map (·.d.data)
def hU(l:List cQ)(B:Nat->List UInt8)(b:Nat):List UInt8:=(w5 l b).getD (B b)
theorem BE(g:3<=m)(f:1<=c)(l:List cQ){k row:Nat}(i:k<m)(a:k≠eD m (row/c)):iG m c l (row:Nat) (k:Nat)=w5 l (wj m c k row):=by
 unfold iG w5;congr 2;funext p;rw[cN];constructor
 ·
  rintro⟨d,e⟩;rw[<-(u9 (b:=p.dV) g f).1,show(cJ m c p.dV).row=row by omega,show(cJ m c p.dV).av=k by omega]
 ·
  intro h;obtain⟨d,e⟩:=PT (row:=row) g f i a;rw[h,d,e];exact⟨rfl,rfl⟩
theorem o5{l:List cQ}{N:Nat}(h:∀p∈l,p.d.data.length=128)(a:∀b,b<N->(B b).length=128)(b:Nat)(f:b<N):(hU l B b).length=128:=by
  unfold hU;cases e:w5 l b with
  |none=>exact a b f
  |some d=>
    obtain⟨p,g,rfl⟩:=Option.map_eq_some_iff.1 e;exact h p (HH.1 (List.mem_of_find?_eq_some g))
end
end Go.Proofs.YtldolcbbmnmjoaaGreat
namespace Go.Proofs.YtldolcbbmnmjoaaGreat
open Go.RowKit Go.Sl
attribute [local irreducible] Sl.Own
section
variable{m c s:Nat}{l:List cQ}{y:CJ}{B:Nat->List UInt8}
theorem pV{l:List Int}{a:Int}:a∈ey l↔a∈l:=(List.mergeSort_perm l _).mem_iff
theorem Nx{l:List Int}(h:l.Nodup):∀i (d:i+1<(ey l).length),(ey l)[i]'(Nat.lt_of_succ_lt d)<(ey l)[i+1]:=by
 have e:(ey l).Pairwise λa b=>decide (a<=b)=true:=List.pairwise_mergeSort (λa b c e f=>by simp at*;omega) (λa b=>by simp;omega) l;have f:(ey l).Nodup:=(List.mergeSort_perm l _).nodup_iff.2 h;intro i d;have a:=List.pairwise_iff_getElem.1 e i (i+1) (Nat.lt_of_succ_lt d) d (Nat.lt_succ_self i);have b:=List.pairwise_iff_getElem.1 f i (i+1) (Nat.lt_of_succ_lt d) d (Nat.lt_succ_self i);simp at a;omega
theorem fJ.aA(h:fJ m c l y){q:cu}(d:q∈y.out):∃t∈y.S,q.aA=gH y.S t.row/\kh y.S t.row=t.es:=by
 have b:q.aA∈(ey (y.S.map (·.row))).map (gH y.S):=by rw[<-h.out];exact List.mem_map_of_mem d
 obtain⟨r,f,e⟩:=fG.1 b;obtain⟨t,a,rfl⟩:=fG.1 (pV.1 f);refine⟨t,a,e.symm,?_⟩;unfold kh;rw[kS (l:=y.S.map λs=>(s.row,s.es)) (by rw[FZ];exact h.ok.one) (fG.2 ⟨t,a,rfl⟩)];rfl
theorem fJ.at(h:fJ m c l y){t:dP}(a:t∈y.S)(k:Int):(fj t.es k).map (λp=>p.d.data)=iG m c l t.row k:=by
 rw[<-wN,<-h.ok.pl];unfold Du;rw[kS (l:=y.S.map dP.pl) (by rw[FZ];exact h.ok.one) (fG.2 ⟨t,a,rfl⟩),Option.bind_some];exact(Dt (λp:aj=>p.d.data) t.es k).symm
theorem fJ.has(h:fJ m c l y){r k:Int}{d:List UInt8}(e:iG m c l r k=some d):∃t∈y.S,t.row=r:=by
 rw[<-wN,<-h.ok.pl]at e;unfold Du at e;obtain⟨es,a,f⟩:=Option.bind_eq_some_iff.1 e;have:r∈(y.S.map dP.pl).map (·.1):=mE.1 (by rw[a];rfl);rw[FZ]at this;obtain⟨t,b,rfl⟩:=fG.1 this;exact⟨t,b,rfl⟩
theorem fJ.MW(h:fJ m c l y){t:dP}(d:t∈y.S):∃q∈y.out,q.aA=gH y.S t.row:=by
 have a:gH y.S t.row∈y.out.map (·.aA):=by rw[h.out];exact List.mem_map_of_mem (pV.2 (fG.2 ⟨t,d,rfl⟩))
 obtain⟨q,b,e⟩:=fG.1 a;exact⟨q,b,e⟩
theorem fJ.row(h:fJ m c l y){t:dP}(u:t∈y.S){q:cu}(A:q.aA=gH y.S t.row)(C:kh y.S t.row=t.es):
  q.aA.length=t.es.length/\(∀i (o:i<q.aA.length),∃G:i<(ey (t.es.map (·.1))).length,q.aA[i].av=(ey (t.es.map (·.1)))[i]/\q.aA[i].row=t.row/\q.aA[i].d∈y.G/\iG m c l t.row q.aA[i].av=some q.aA[i].d.data)/\∀k d,iG m c l t.row k=some d->∃p∈q.aA,p.av=k:=by
 have v:=h.ok.each t u;have e:q.aA=(ey (t.es.map (·.1))).map λk=>(fj t.es k).getD TX:=by rw[A];unfold gH;rw[C]
 have r:(ey (t.es.map (·.1))).length=t.es.length:=by rw[ey,List.length_mergeSort,ew]
 have f:∀k∈ey (t.es.map (·.1)),∃p,fj t.es k=some p/\p.av=k/\p.row=t.row/\p.d∈y.G:=λk n=>by
  obtain⟨x,z,rfl⟩:=fG.1 (pV.1 n);obtain⟨a,b,c⟩:=v.of x z;exact⟨x.2,kS v.one z,a,b,c⟩
 refine⟨by rw[e,ew,r],λi o=>?_,λk d n=>?_⟩
 ·
  have j:i<(ey (t.es.map (·.1))).length:=by rw[e,ew]at o;exact o
  obtain⟨p,a,b,c',d⟩:=f _ (fF j);have D:q.aA[i]=p:=by simp only[e,Jz,a];rfl
  refine⟨j,?_⟩;rw[D,<-h.at u,b,a];exact⟨rfl,c',d,rfl⟩
 ·
  rw[<-h.at u]at n;obtain⟨p,E,_⟩:=Option.map_eq_some_iff.1 n;have g:k∈ey (t.es.map (·.1)):=pV.2 (mE.1 (by rw[E];rfl));obtain⟨F,a,b,_⟩:=f k g;exact⟨F,by rw[e];exact fG.2 ⟨k,g,by rw[a];rfl⟩,b⟩
theorem fJ.QK(h:fJ m c l y)(z:3<=m)(x:1<=c)(I:∀p∈l,p.dV<s*c* (m-1))(a:∀p∈l,p.d.data.length=128){t:dP}(A:t∈y.S)(u:t.es≠[]){q:cu}(E:q.aA=gH y.S t.row)(F:kh y.S t.row=t.es):∃row:Nat,t.row=row/\fZ m c s row q.aA:=by
 obtain⟨g1,g2,g3⟩:=h.row A E F;have j:0<q.aA.length:=by rw[g1];exact CD.2 u
 obtain⟨_,_,_,_,D⟩:=g2 0 j;obtain⟨n,v,M,_,_⟩:=w6 D;have k:(cJ m c n.dV).row<s*c:=by
  obtain⟨st,i,o,f,K,e⟩:=Hf z x n.dV;have d:=I n v;rw[e,tz f K];rw[e]at d;have G:st<s:=by
   rcases w9 st s with g|g
   · exact g
   ·
    have:s* ((m-1)*c)<=st* ((m-1)*c):=u0 _ g;rw[Nat.mul_assoc,Aj c]at d;omega
  have H:(st+1)*c<=s*c:=u0 _ G;rw[Tk]at H;show st*c+o<s*c;omega
 refine⟨(cJ m c n.dV).row,M.symm,⟨CD.1 j,k,λi f=>?_,λi f=>?_⟩⟩
 ·
  obtain⟨_,_,a3,_,a5⟩:=g2 i f;obtain⟨p,L,P,Q,N⟩:=w6 a5;obtain⟨_,r⟩:=u9 (b:=p.dV) z x;have J:(cJ m c p.dV).av<m:=qX _ zO;rw[show(cJ m c p.dV).row=(cJ m c n.dV).row by omega]at r;exact⟨by omega,by omega,by omega,λe=>r zO,by rw[<-N];exact a p L⟩
 ·
  obtain⟨O,a2,_⟩:=g2 i zO;obtain⟨C,r,_⟩:=g2 (i+1) f;rw[a2,r];exact Nx (h.ok.each t A).one i C
theorem NA(m c:Nat)(l:List cQ):∀s∈kD m c l,s.2≠[]:=by
  induction l using lH with
  |nil=>intro s b;cases b
  |snoc l p d=>
    rw[jN];intro s b;obtain⟨f,a,rfl⟩:=fG.1 b;dsimp only;split
    · unfold mq;simp
    · rename_i e
      unfold gK at a
      split at a
      · exact d f a
      · rcases l0.1 a with g|g
        · exact d f g
        · rw[ju.1 g]at e;exact lcs rfl e
theorem fJ.Qw(h:fJ m c l y){t:dP}(a:t∈y.S):t.es≠[]:=λe=>by
 have:=NA m c l (dP.pl t) (by rw[<-h.ok.pl];exact List.mem_map_of_mem a);exact this (by show t.es.map _=[];rw[e];rfl)
theorem fJ.CU(h:fJ m c l y){Y:eA}(P:Y.ok)(e:Y.m=m/\Y.c=c/\Y.s=s)(Q:∀p∈l,p.dV<s*c* (m-1))(n:∀p∈l,p.d.data.length=128)(V:∀b,b<s*c* (m-1)->(B b).length=128):Ol Y (fy m c B) (fy m c (hU l B)) y.out:=by
  obtain⟨rfl,rfl,rfl⟩:=e;have x:=P.m.1;have v:=P.c.1;have u:=o5 n V;have A:∀k row:Nat,k<Y.m->k≠eD Y.m (row/Y.c)->iG Y.m Y.c l (row:Nat) (k:Nat)=none->fy Y.m Y.c (hU l B) k row=fy Y.m Y.c B k row:=λk row j a R=>by
    rw[BE x v l j a]at R;unfold fy;rw[aE a,aE a];unfold hU;rw[R];rfl
  refine⟨ET x v u,EU x v u,λq N=>?_,λk row j hr W=>?_⟩
  · obtain⟨t,z,F,G⟩:=h.aA N
    obtain⟨row,f,E⟩:=h.QK x v Q n z (h.Qw z) F G
    obtain⟨g1,g2,g3⟩:=h.row z F G
    refine⟨row,E,⟨λk j=>ET x v u k row j E.row,EU x v u row E.row,λp I=>?_,λk j a L=>?_⟩⟩
    · obtain⟨i,D,rfl⟩:=List.mem_iff_getElem.1 I
      obtain⟨_,_,_,_,a5⟩:=g2 i D
      obtain⟨S,T,Z,O,_⟩:=E.of i D
      obtain⟨k,j⟩:=RA S
      have j:q.aA[i].av=(k:Int):=j
      rw[j]at T O a5⊢
      have K:k<Y.m:=by omega
      have H:k≠eD Y.m (row/Y.c):=λe=>O (by rw[e])
      rw[f,BE x v l K H]at a5
      unfold fy
      rw[aE (show(k:Int).toNat≠_ from H)]
      unfold hU
      rw[show(k:Int).toNat=k from rfl,a5];rfl
    · refine A k row j a ?_
      cases e:iG Y.m Y.c l (row:Nat) (k:Nat)with
      |none=>rfl
      |some d=>
        rw[<-f]at e
        obtain⟨p,I,C⟩:=g3 _ _ e
        exact lcs C (L p I)
  · have r:∀i:Nat,i<Y.m->i≠eD Y.m (row/Y.c)->(i=k\/k=eD Y.m (row/Y.c))->iG Y.m Y.c l (row:Nat) (i:Nat)=none:=λi D a M=>by
      cases e:iG Y.m Y.c l (row:Nat) (i:Nat)with
      |none=>rfl
      |some d=>
        obtain⟨t,z,f⟩:=h.has e;obtain⟨q,N,F⟩:=h.MW z;have G:kh y.S t.row=t.es:=by
          unfold kh;rw[kS (l:=y.S.map λs=>(s.row,s.es)) (by rw[FZ];exact h.ok.one) (fG.2 ⟨t,z,rfl⟩)];rfl
        obtain⟨J,X,E⟩:=h.QK x v Q n z (h.Qw z) F G;obtain rfl:J=row:=by omega
        obtain⟨U,c2⟩:=W q N E;rw[<-f]at e;obtain⟨p,I,C⟩:=(h.row z F G).2.2 _ _ e;rcases M with g|g
        · exact lcs (by rw[C,g]) (c2 p I)
        · exact lcs g U
    by_cases o:k=eD Y.m (row/Y.c)
    · unfold fy
      rw[lam o,lam o]
      refine jQ λi D=>?_
      unfold yZ
      split
      · rfl
      · rename_i a
        have:=r i D a (.inr o)
        rw[BE x v l D a]at this
        unfold hU
        rw[this];rfl
    · exact A k row j o (r k j o (.inl rfl))
def dF(m c:Nat)(l:List cQ):Nat:=(kD m c l).length+((kD m c l).map λs=>s.2.length).sum
theorem fJ.rows_nd(h:fJ m c l y)(x:3<=m)(u:1<=c)(i:∀p∈l,p.dV<s*c* (m-1))(d:∀p∈l,p.d.data.length=128):(y.out.map λq=>rowQ q.aA).Nodup:=by
 have e:(y.out.map λq=>rowQ q.aA)=(ey (y.S.map (·.row))).map λr=>rowQ (gH y.S r):=by
  have:=JB (List.map rowQ) h.out;rwa [FZ,FZ]at this
 have f:∀r∈ey (y.S.map (·.row)),((rowQ (gH y.S r):Nat):Int)=r:=λr A=>by
  obtain⟨t,k,rfl⟩:=fG.1 (pV.1 A);have n:kh y.S t.row=t.es:=by
   unfold kh;rw[kS (l:=y.S.map λs=>(s.row,s.es)) (by rw[FZ];exact h.ok.one) (fG.2 ⟨t,k,rfl⟩)];rfl
  obtain⟨row,g,v⟩:=h.QK x u i d k (h.Qw k) (q:=⟨none,0,gH y.S t.row⟩) rfl n;rw[rowQ_of v,g]
 rw[e,List.Nodup,List.pairwise_map];have z:(ey (y.S.map (·.row))).Nodup:=(List.mergeSort_perm (y.S.map (·.row)) _).nodup_iff.2 h.ok.one;exact List.Pairwise.imp_of_mem (R:=λa b=>a≠b) (λ{a b} o i j e=>j (by rw[<-f _ o,<-f _ i,e])) z
theorem fJ.PH(h:fJ m c l y):kz y.out=dF m c l:=by
 have a:(y.out.map λq=>q.aA.length)=(ey (y.S.map (·.row))).map λr=>(gH y.S r).length:=by
  have:=JB (List.map List.length) h.out;rw[FZ,FZ]at this;exact this
 have d:(y.S.map (·.row)).map (λr=>(gH y.S r).length)=(kD m c l).map λs=>s.2.length:=by
  rw[<-h.ok.pl,FZ,FZ];refine Mx λt e=>?_;show(gH y.S t.row).length=(t.es.map λx=>(x.1,x.2.d.data)).length;unfold gH kh;rw[kS (l:=y.S.map λs=>(s.row,s.es)) (by rw[FZ];exact h.ok.one) (fG.2 ⟨t,e,rfl⟩),ew,ew,ey,List.length_mergeSort,ew];rfl
 have b:y.out.length=(kD m c l).length:=by
  have:=JB List.length a;rw[ew,ew,ey,List.length_mergeSort,ew]at this;rw[this,<-h.ok.pl,ew]
 unfold kz Ed dF;rw[b,a,((List.mergeSort_perm (y.S.map (·.row)) _).map _).sum_nat,d]
end
end Go.Proofs.YtldolcbbmnmjoaaGreat
namespace Go.Proofs.YtldolcbbmnmjoaaGreat
open Go.RowKit Go.Sl
attribute [local irreducible] Sl.Own
theorem cut_cut{D:aw}{n c:Nat}{K:Kd}(h:Bq0 D n K c)(kl a:List (List Bool)):(D.cut kl).cut a=D.cut kl:=by
  have f:∀i (b:i<D.bh.length),∃k,D.bh[i]=⟨some ⟨k,false,0⟩,none,none⟩:=λi b=>by
    cases e:K i with
    |some k=>exact⟨k,HF ((fL b).symm.trans (h.is i k e).1)⟩
    |none=>
      obtain⟨k,e,-⟩:=h.out i (by rw[<-h.len];exact b) e;exact⟨k,HF ((fL b).symm.trans e)⟩
  have e:(D.bh.mapIdx λi s=>s.cut (kl.getD i [])).mapIdx (λi s=>s.cut (a.getD i []))=D.bh.mapIdx λi s=>s.cut (kl.getD i []):=by
    refine E6 (by simp) λi g d=>?_;rw[List.getElem_mapIdx,List.getElem_mapIdx];obtain⟨k,e⟩:=f i (by simpa using d);rw[e];unfold gC.cut;rfl
  unfold aw.cut;dsimp only;rw[e]
section
variable{s:iu}{n wp c':Nat}{fr:List Int}{V:Nat->Nat->List UInt8}{D':aw}{K':Kd}{kj':ak}{S:List (List bK)}
def saidL(S:List (List bK))(V:Nat->Nat->List UInt8):List aj:=(S.flatten.reverse.filter λp=>decide (p.data=V p.av.toNat p.row.toNat)).map λp=>⟨p.av,p.row,⟨none,0,p.data⟩⟩
theorem said_mem{p:aj}(h:p∈saidL S V):p.D∈S.flatten/\p.d.data=V p.av.toNat p.row.toNat:=by
 obtain⟨q,c,rfl⟩:=fG.1 h;obtain⟨a,b⟩:=KO.1 c;exact⟨HH.1 a,cI b⟩
theorem said_none{k row:Nat}(b:∀d,ob S k row=some d->d=V k row)(h:cq (saidL S V) k row=none):ob S k row=none:=by
  cases e:ob S k row with
  |none=>rfl
  |some d=>
    have b:=b d e;obtain⟨p,c,rfl⟩:=Option.map_eq_some_iff.1 e;have f:=List.mem_of_find?_eq_some c;have a:p.av=(k:Int)/\p.row=(row:Int):=by simpa using List.find?_some c
    unfold cq at h;rw[Option.map_eq_none_iff,Tm]at h;have:=h ⟨p.av,p.row,⟨none,0,p.data⟩⟩ (fG.2 ⟨p,KO.2 ⟨f,ky (by rw[b,a.1,a.2];rfl)⟩,rfl⟩);exact lcs (by unfold sH;exact ky a) this
def SameZ(m:Nat)(K K':Kd):Prop:=∀i b,K i=some b->∃a,K' i=some a/\(i≠m->a.last.length=b.last.length)/\∀x,Sr b 0 x->Sr a 0 x
theorem SameZ.refl(m:Nat)(K:Kd):SameZ m K K:=λi a e=>⟨a,e,λ_=>rfl,λ_ h=>h⟩
theorem iu.okz.wreck(h:s.okz wp fr V)(I:Bq0 D' n K' c')(O:K' s.Y.m=some kj')(P:SameZ s.Y.m s.K K')(F:vV K' fr s.Y.m (s.Y.s*s.Y.c) S V)(C:Uq s.Y.m (s.Y.s*s.Y.c) S)(kl:List (List Bool))
    (o:qt s.v.size s.v.epoch s.base s.v.tail S (kj'.settle (jI (kl.getD s.Y.m []))).last)(N:s.c<=c')(U:s.base+S.length<=c'):
    ∃t:iu,t.ok n wp fr V/\s.to t/\t.D=D'.cut kl/\t.v.sure=true/\t.c<=c'/\t.Y.wo=none/\t.D.cut []=t.D:=by
  have E:∀k row,k<s.Y.m->row<s.Y.s*s.Y.c->¬gB fr k row->∃y,K' k=some y/\1+s.Y.s*s.Y.c<=y.last.length:=λk row j z A=>by
    obtain⟨y,e,l,_⟩:=h.F.is k row j z A;obtain⟨G,e',M,_⟩:=P k y e;exact⟨G,e',by rw[M (Nat.ne_of_lt j)];exact l⟩
  have L:=o.uZ.cost;have J:∀ls:List (List bK),2*ls.flatten.length+ls.length=bu ls:=by
    intro ls;induction ls with
    |nil=>rfl
    |cons l r Z=>rw[fQ,List.flatten_cons,c9,tc];omega
  have B:(saidL S V).length<=1023:=by
    have j:(saidL S V).length<=S.flatten.length:=by
      unfold saidL;rw[ew];exact RB (uy _ _) (by rw[List.length_reverse];exact eI _)
    have:=J S;have:=o.bnd;by_cases e:S=[]
    · rw[e]at j⊢;exact RB j (c7 _)
    · have:1<=S.length:=CD.2 e
      omega
  have f:∀p∈saidL S V,p.Of s.Y/\p.d.data=V p.av.toNat p.row.toNat:=λp u=>by
    obtain⟨j,z⟩:=said_mem u;obtain⟨a,b,c⟩:=C _ j;exact⟨⟨a,b,c⟩,z⟩
  refine⟨{s with Y:={s.Y with wo:=none,wc:=0,wl:=saidL S V},D:=D'.cut kl,K:=λi=>(K' i).map λk=>k.settle (jI (kl.getD i [])),kj:=kj'.settle (jI (kl.getD s.Y.m [])),v:=⟨(s.Y.m:Int),s.v.epoch,s.v.size,s.v.tail,bu S,s.base+S.length,true,none,0⟩,x:=⟨S,S.length,none⟩,c:=c'},
    ⟨⟨⟨h.Y.m,h.Y.c,h.Y.s⟩,h.w,⟨h.F.len,h.F.one,h.F.mu,h.F.par,λk row d e=>?_,λk row j z A=>?_,λp u=>(f p u).1.n,by dsimp only;omega⟩,λ_=>⟨rfl,rfl⟩,by show(K' s.Y.m).map _=_;rw[O];rfl,rfl,Live.open o rfl (I.is _ _ O).2.1,h.base,RB h.ep N,U,B,λp u=>⟨⟨(f p u).1.m,(f p u).1.r,(f p u).1.n⟩,(f p u).2⟩,λk row y j z A e=>?_,C⟩,I.cut kl⟩,
    ⟨rfl,rfl,λi y e=>?_,N⟩,rfl,rfl,eI _,rfl,cut_cut I kl []⟩
  · obtain⟨p,u,Q,R,T⟩:=jP e
    rw[<-T,(f p u).2,Q,R];rfl
  · obtain⟨y,e,l⟩:=E k row j z A
    obtain⟨g1,g2⟩:=F k row y j z A e
    exact⟨_,by dsimp only;rw[e];rfl,by rw[dM];exact l,λw=>((g1 (said_none g2 w)).settle _).look⟩
  · dsimp only at e
    cases H:K' k with
    |none=>rw[H]at e;cases e
    |some W=>
      rw[H]at e;cases e
      obtain⟨g1,g2⟩:=F k row W j z A H
      exact⟨λg=>(g1 g).settle _,g2⟩
  · obtain⟨G,e',M,X⟩:=P i y e
    exact⟨_,by dsimp only;rw[e'];rfl,λq=>by rw[dM];exact M q,λx g=>(X x g).settle _⟩
end
end Go.Proofs.YtldolcbbmnmjoaaGreat
namespace Go.Proofs.YtldolcbbmnmjoaaGreat
open Go.RowKit Go.Sl
attribute [local irreducible] Sl.Own
structure iu.okl(s:iu)(n wp:Nat)(fr:List Int)(V:Nat->Nat->List UInt8):Prop extends s.okz wp fr V where
  q:Bq2 s.D n s.K s.c
def Wreck(s:iu)(n wp:Nat)(fr:List Int)(P:(Nat->Nat->List UInt8)->Prop)(c':Nat)(D':aw):Prop:=∀kl,∃V,∃t:iu,P V/\t.ok n wp fr V/\s.to t/\t.D=D'.cut kl/\t.v.sure=true/\t.c<=c'/\t.Y.wo=none/\t.D.cut []=t.D
section
variable{W:World}{R:List ab}{s t:iu}{n wp c' N:Nat}{fr:List Int}{V V':Nat->Nat->List UInt8}{D':aw}{K':Kd}{kj':ak}{S:List (List bK)}{P Q:(Nat->Nat->List UInt8)->Prop}
theorem Wreck.to(h:Wreck t n wp fr P c' D')(g:s.to t)(e:∀V,P V->Q V):Wreck s n wp fr Q c' D':=λkl=>by
 obtain⟨V,u,a,b,c,d⟩:=h kl;exact⟨V,u,e V a,b,g.trans c,d⟩
theorem Wreck.mono{c2:Nat}(h:Wreck s n wp fr P c' D')(i:c'<=c2):Wreck s n wp fr P c2 D':=λkl=>by
 obtain⟨V,u,a,b,c,d,e,f,g⟩:=h kl;exact⟨V,u,a,b,c,d,e,RB f i,g⟩
theorem iu.ok.l(h:s.ok n wp fr V):s.okl n wp fr V:=⟨h.tookz,h.q.bq0⟩
theorem iu.okl.ok(h:s.okl n wp fr V)(q:s.D.c8=-1):s.ok n wp fr V:=⟨h.tookz,h.q.bq1 q⟩
theorem iu.okz.lO(h:s.okz wp fr V)(a:s.c<=1000000):dJ s.v.epoch s.v.next:=⟨by have:=h.ep;omega,by have:=h.live.next;have:=h.base;omega,by have:=h.nx;omega⟩
theorem iu.okz.SJ(h:s.okz wp fr V)(a:s.c<=1000000):s.v.ok:=h.live.SJ (by have:=h.ep;omega) (by have:=h.nx;omega) h.base
theorem iu.okz.jcut(h:s.okz wp fr V)(m:Bq0 D' n (ez s.K s.Y.m kj') c')(g:∀z,Sr s.kj 0 z->Sr kj' 0 z)(c:vV s.K fr s.Y.m (s.Y.s*s.Y.c) S V)(b:Uq s.Y.m (s.Y.s*s.Y.c) S)(kl:List (List Bool))
  (a:qt s.v.size s.v.epoch s.base s.v.tail S (kj'.settle (jI (kl.getD s.Y.m []))).last)(o:s.c<=c')(p:s.base+S.length<=c'):
  ∃t:iu,t.ok n wp fr V/\s.to t/\t.D=D'.cut kl/\t.v.sure=true/\t.c<=c'/\t.Y.wo=none/\t.D.cut []=t.D:=
 h.wreck m (eZ _ _ _) (λi d e=>by
  by_cases q:i=s.Y.m
  ·
   subst q;rw[h.k]at e;cases e;exact⟨kj',eZ _ _ _,λq=>lcs rfl q,g⟩
  · exact⟨d,by rw[dH _ _ q];exact e,λ_=>rfl,λ_ h=>h⟩) (λk row d f j l e=>c k row d f j l (by rwa [dH _ _ (Nat.ne_of_lt f)]at e)) b kl a o p
theorem iu.okz.jdark(h:s.okz wp fr V)(b:s.v.sure=true)(e:Bq0 D' n (ez s.K s.Y.m kj') c')(d:∀z,Sr s.kj 0 z->Sr kj' 0 z)(a:KX (λL=>qt s.v.size s.v.epoch s.base s.v.tail (s.x.cy.take s.x.sure) L\/qt s.v.size s.v.epoch s.base s.v.tail s.x.cy L) kj')(f:s.c<=c'):Wreck s n wp fr (·=V) c' D':=λkl=>by
 have c:_\/_:=a (jI (kl.getD s.Y.m []));rw[(h.live.sure b).1,SP,or_self]at c;obtain⟨t,g⟩:=h.jcut e d h.stay h.inr kl c f (by have:=h.live.next;have:=h.nx;omega);exact⟨V,t,rfl,g⟩
theorem iu.okl.rdark(h:s.okl n wp fr V)(a:s.v.sure=true)(b:Bq0 D' n s.K c')(c:s.c<=c'):Wreck s n wp fr (·=V) c' D':=h.jdark a (kj':=s.kj) (by rw[pz h.k];exact b) (λ_ z=>z) h.live.UF c
theorem cov_log{v:bT}{k:ak}{base:Nat}{x:fY}{ps:List bK}(h:dt v k base x)(b:k9 v.epoch v.next ps)(f:2*ps.length+1<=v.size-v.used)(j:Nat):KX (λL=>qt v.size v.epoch base v.tail (x.cy.take x.sure) L\/qt v.size v.epoch base v.tail x.cy L) (k.writes ((fT v (dp v.epoch v.next ps.length ps 0)).take j)):=by
 have d:=h.used;have e:=h.all.uZ.cost;have g:=costL_take x.cy x.sure;refine KX.writes _ h.UF ?_;intro y c L hL;rw[JQ d]at c;obtain⟨i,a,rfl⟩:=List.mem_iff_getElem.1 (Tl c);rw[List.length_mapIdx,cj]at a;rw[List.getElem_mapIdx];dsimp only;have hr1:=q7 b _ (fF (by rw[cj];exact a));have hr2:=Ec b _ (fF (by rw[cj];exact a));rcases hL with hL|hL
 · exact .inl (hL.put (by omega) (by omega) hr1 hr2)
 · exact .inr (hL.put (by omega) (by omega) hr1 hr2)
structure Went(s:iu)(n wp:Nat)(fr:List Int)(P:(Nat->Nat->List UInt8)->Prop)(N c':Nat)(D':aw):Prop where
  lo:0<=s.D.c8
  lt:s.D.c8<N
  is:Wreck s n wp fr P c' D'
theorem iu.okl.log(h:s.okl n wp fr V)(y:s.v.sure=true)(H:s.c<=1000000){l:List aj}(I:∀p∈l,p.Of s.Y)(G:1<=l.length)(L:2*l.length+1<=s.v.size-s.v.used):
  (∃D' kj',y1 (s.v,s.D) (l.map aj.D)=(0,(RH s.v l,D'))/\({s with D:=D',K:=ez s.K s.Y.m kj',kj:=kj',v:=RH s.v l,x:=s.x.jl 1 (l.map aj.D),base:=s.base,c:=s.c}:iu).okl n wp fr V/\s.to {s with D:=D',K:=ez s.K s.Y.m kj',kj:=kj',v:=RH s.v l,x:=s.x.jl 1 (l.map aj.D),base:=s.base,c:=s.c}/\Did s.D D' (2*l.length+1))\/
  ∃v' D',y1 (s.v,s.D) (l.map aj.D)=(50,(v',D'))/\Went s n wp fr (·=V) (2*l.length+1) (s.c+3000) D':=by
 have M:=h.live.size;have O:=h.Y.m;have o:=h.live.len;have E:s.Y.s*s.Y.c<=256*16:=RC h.Y.s.2 h.Y.c.2;have A:k9 s.v.epoch s.v.next (l.map aj.D):=⟨h.lO H,by rw[ew];exact G,by rw[ew];omega,λp d=>by
  obtain⟨q,J,rfl⟩:=fG.1 d;have:=I q J;have a:=this.m;have b:=this.r;have c:=this.n;exact⟨⟨a.1,by show q.av<=15;omega⟩,⟨b.1,by show q.row<=4095;omega⟩,c⟩⟩
 have m:2* (l.map aj.D).length+1<=s.v.size-s.v.used:=by rw[ew];exact L
 have k:∀p∈fT s.v (dp s.v.epoch s.v.next (l.map aj.D).length (l.map aj.D) 0),(2<=p.1/\p.1<s.kj.last.length)/\p.2.length=128:=λp d=>by
  obtain⟨i,C,rfl⟩:=List.mem_iff_getElem.1 d;rw[je]at C;rw[uC _ _ i C];exact⟨⟨Nat.le_add_right _ _,w8 (vM (by omega) i) (by omega)⟩,q7 A _ (fF C)⟩
 have u:=(h.q.is _ _ h.k).2.2;rcases Tx (h.q.pw h.k) h.slot h.live.MM A m o with⟨D',e,d,f⟩|⟨_,D',j,e,g⟩
 ·
  refine .inl ⟨D',_,e,⟨h.jr rfl (MD h.live A m) h.base h.ep h.nx h.stay h.inr,h.q.Pa d (ak.fU (rz u λp d=>⟨(k p d).1.2,(k p d).2⟩)) (c7 _) (eI _) f⟩,iu.to.jr h.k rfl (eI _) λz F=>(F.Cu λp d=>by have:=(k p d).1.1;omega).settle _,?_⟩;have:=f.did;rwa [c9,j0,ew]at this
 ·
  have B:=(h.live.sure y).2;have r:=g.lt;rw[ew]at r;refine .inr ⟨_,D',e,g.lo,r,h.jdark y (h.q.dq0 g (rz u λp d=>⟨(k p (Tl d)).1.2,(k p (Tl d)).2⟩) ?_ (Nat.le_add_right _ _)).toBq0 (λz F=>F.Cu λp d=>by have:=(k p (Tl d)).1.1;omega) (cov_log h.live A m j) (Nat.le_add_right _ _)⟩;show(s.kj.cache++_).length<=_;rw[B,ou,j1,je,cj,ew];omega
theorem iu.okl.sealw(h:s.okl n wp fr V)(hc:s.c<=1000000){l:List aj}(o:s.x.j9=some (l.map aj.D))(X:s.Y.wl=[])(b:Fc s.Y V V' l)(h1:1<=l.length)(ao:Option Addr)(cap:Nat):
    (∃D' kj',pB (s.v,s.D)=(0,(su s.v l,D'))/\({s with Y:=s.Y.R2 ao cap l,D:=D',K:=ez s.K s.Y.m kj',kj:=kj',v:=su s.v l,x:=s.x.jl 2 [],base:=s.base,c:=s.c+1}:iu).okl n wp fr V'/\
      s.to {s with Y:=s.Y.R2 ao cap l,D:=D',K:=ez s.K s.Y.m kj',kj:=kj',v:=su s.v l,x:=s.x.jl 2 [],base:=s.base,c:=s.c+1}/\Did s.D D' 1/\∀I c2,s.c+1<=c2->Bq0 I n (ez s.K s.Y.m kj') c2->Wreck s n wp fr (λU=>U=V\/U=V') c2 I)\/
    ∃v' D',pB (s.v,s.D)=(50,(v',D'))/\Went s n wp fr (·=V) 1 (s.c+3000) D':=by
  obtain⟨J,a2,a3,a4,a5⟩:=h.live.RG _ o;have aa:=h.live.size;have B:=h.live.len;have ad:=h.live.used;have T:l.length<=1023:=by have:=a3.n2;rwa [ew]at this
  have A:(fB s.v.epoch s.v.next (l.map aj.D)).enc.2.length=128:=(h.SJ hc).log _ a2 |>.2.2.1;have E:=(h.q.is _ _ h.k).2.2;rcases RX (h.q.pw h.k) h.slot h.live.MM a2 (by omega) (by dsimp only;omega) A B with⟨D',e,a,f⟩|⟨_,D',e,g⟩
  rotate_left
  · have:=h.q.dq0 g E (c':=s.c+3000) (RB (h.q.Rw h.k) (Nat.le_add_right _ _)) (Nat.le_add_right _ _)
    exact .inr ⟨_,D',e,g.lo,g.lt,h.jdark J this.toBq0 (λ_ z=>z) h.live.UF (Nat.le_add_right _ _)⟩
  · have M:s.kj.cache=[]:=(h.live.sure J).2
    have F:Bq2 D' n (ez s.K s.Y.m (s.kj.writes [(s.v.spot (2* (l.map aj.D).length),(fB s.v.epoch s.v.next (l.map aj.D)).enc.2)])) (s.c+1):=h.q.Pa a (rz E λp a=>by rw[ju.1 a];exact⟨w8 (vM (by omega) _) (by omega),A⟩) (by show(s.kj.cache++[_]).length<=_;rw[M];simp) (Nat.le_succ _) f
    have G:s.x.jl 2 []=⟨s.x.cy++[l.map aj.D],s.x.sure,none⟩:=by unfold fY.jl;rw[o];rfl
    obtain⟨kj',j⟩:∃kj',s.kj.writes [(s.v.spot (2* (l.map aj.D).length),(fB s.v.epoch s.v.next (l.map aj.D)).enc.2)]=kj':=⟨_,rfl⟩
    have C:dt (su s.v l) kj' s.base (s.x.jl 2 []):=j▸JF h.live o
    have Z:∀z,Sr s.kj 0 z->Sr kj' 0 z:=λz hz=>j▸hz.Cu λp a=>by rw[ju.1 a];dsimp only;unfold bT.spot;omega
    rw[j]at F
    suffices y:({s with Y:=s.Y.R2 ao cap l,D:=D',K:=ez s.K s.Y.m kj',kj:=kj',v:=su s.v l,x:=s.x.jl 2 [],base:=s.base,c:=s.c+1}:iu).okl n wp fr V'/\s.to ({s with Y:=s.Y.R2 ao cap l,D:=D',K:=ez s.K s.Y.m kj',kj:=kj',v:=su s.v l,x:=s.x.jl 2 [],base:=s.base,c:=s.c+1}:iu)from .inl ⟨D',kj',e,y.1,y.2,f.did,λI c2 L hb kl=>by
      have hr:_\/_:=C.UF (jI (kl.getD s.Y.m []));have hn:=h.live.next;have ag:=h.nx;rcases hr with hr|hr
      · rw[G]at hr
        dsimp only at hr
        rw[(h.live.sure J).1,DL rfl]at hr
        obtain⟨u,g⟩:=h.jcut hb Z h.stay h.inr kl hr (by omega) (by omega)
        exact⟨V,u,.inl rfl,g⟩
      · obtain⟨u,g1,g2,g3⟩:=y.1.tookz.wreck (kj':=kj') hb (eZ _ _ _) (SameZ.refl _ _) y.1.stay y.1.inr kl hr L (by rw[G];show s.base+(s.x.cy++[_]).length<=c2;rw[c9,ie];omega)
        exact⟨V',u,.inr rfl,g1,y.2.trans g2,g3⟩⟩
    refine⟨⟨⟨⟨h.Y.m,h.Y.c,h.Y.s⟩,h.w,⟨h.F.len,h.F.one,b.n,b.par,λk row d e=>b.at e,λk row i hr O=>?_,λp a=>(b.of p a).1.n,by dsimp only;omega⟩,λq=>lcs q (by intro q;rw[show l=[]from q]at h1;simp at h1),eZ _ _ _,h.slot,C,h.base,RB h.ep (Nat.le_succ _),Nat.succ_le_succ h.nx,T,λp a=>⟨⟨(b.of p a).1.m,(b.of p a).1.r,(b.of p a).1.n⟩,(b.of p a).2⟩,λk row H i hr O e=>?_,λp a=>?_⟩,F⟩,?_⟩
    · obtain⟨H,e,g1,g2⟩:=h.F.is k row i hr O
      refine⟨H,by dsimp only;rw[dH _ _ (show k≠s.Y.m from Nat.ne_of_lt i)];exact e,g1,λg=>?_⟩
      rw[b.KT k row i hr g]
      exact g2 (by rw[X];rfl)
    · have e:ez s.K s.Y.m _ k=some H:=e
      rw[dH _ _ (show k≠s.Y.m from Nat.ne_of_lt i)]at e
      obtain⟨g1,g2⟩:=h.stay k row H i hr O e
      dsimp only
      rw[G,FY]
      cases q:cq l.reverse k row with
      |some d=>exact⟨λg=>(by cases g),λd' g=>by cases g;exact b.UC q⟩
      |none=>
        rw[Option.none_or,b.KT k row i hr (yn.1 q)]
        exact⟨g1,g2⟩
    · dsimp only at a
      rw[G]at a
      simp only[List.flatten_append,List.flatten_singleton,l0,fG]at a
      rcases a with a|⟨q,hq,rfl⟩
      · exact h.inr p a
      · have:=(b.of q hq).1
        exact⟨this.m,this.r,this.n⟩
    · obtain⟨b1,b2,b3,b4⟩:=iu.to.jr (s:=s) (D':=D') (v':=su s.v l) (x':=s.x.jl 2 []) (b':=s.base) h.k rfl (Nat.le_succ s.c) (kj':=kj') Z
      exact⟨b1,b2,b3,b4⟩
theorem iu.okl.settled(h:s.okl n wp fr V){D':aw}{K':Kd}{kj':ak}(e:Bq2 D' n K' (s.c+s.Y.wl.length))(i:K' s.Y.m=some kj')(d:dt s.v.rr kj' s.base (s.x.jl 3 []))(g:∀z,Sr s.kj 0 z->Sr kj' 0 z)(f:fA (sI fr s.Y.wl) (ez s.K s.Y.m kj') K'):
  ({s with Y:=s.Y.done,D:=D',K:=K',kj:=kj',v:=s.v.rr,x:=s.x.jl 3 [],c:=s.c+s.Y.wl.length}:iu).okl n wp fr V/\s.to {s with Y:=s.Y.done,D:=D',K:=K',kj:=kj',v:=s.v.rr,x:=s.x.jl 3 [],c:=s.c+s.Y.wl.length}:=by
 have a:=h.jr (D':=D') (v':=s.v.rr) rfl d h.base h.ep h.nx h.stay h.inr;have t1:=iu.to.jr (s:=s) (D':=D') (v':=s.v.rr) (x':=s.x.jl 3 []) (b':=s.base) h.k rfl (eI s.c) g;obtain⟨b,t2⟩:=a.hJ (D':=D') f (Nat.le_add_right s.c s.Y.wl.length);exact⟨⟨b,e⟩,t1.trans t2⟩
theorem iu.okz.UM(h:s.okz wp fr V)(m:s.v.sure=true){f:Nat->Nat->Option (List UInt8)}(r:∀i a d,f i a=some d->sI fr s.Y.wl i a=some d)(o:fA f s.K K')(G:Bq0 D' n K' c')(I:K' s.Y.m=some s.kj)(H:s.c<=c'):Wreck s n wp fr (·=V) c' D':=λkl=>by
  have v:_\/_:=h.live.UF (jI (kl.getD s.Y.m []));rw[(h.live.sure m).1,SP,or_self]at v;have c:∀k row d,f k (1+row)=some d->d=V k row:=λk row d e=>by
    have e:=r _ _ _ e;unfold sI at e;split at e
    · cases e
    · obtain⟨p,u,A,B,C⟩:=jP e
      rw[HH]at u
      rw[<-C,(h.KU p u).2,A,B];congr 1;omega
  obtain⟨t,g⟩:=h.wreck G I (λi z e=>by
    obtain⟨j,e',b⟩:=(o i).2 z e;exact⟨j,e',λ_=>b.len,λx q=>b.sr 0 x (λd g=>by have g:=r _ _ _ g;unfold sI at g;rw[lam (.inl rfl)]at g;cases g) q⟩) (λk row z D E F e=>by
    cases l:s.K k with
    |none=>rw[(o k).1 l]at e;cases e
    |some y=>
      obtain⟨j,e',b⟩:=(o k).2 y l;rw[e']at e;cases e;obtain⟨g1,g2⟩:=h.stay k row y D E F l;exact⟨λg=>b.sr _ _ (λd q=>c k row d q) (g1 g),g2⟩) h.inr kl v H (by have:=h.live.next;have:=h.nx;omega)
  exact⟨V,t,rfl,g⟩
end
end Go.Proofs.YtldolcbbmnmjoaaGreat
namespace Go.Proofs.YtldolcbbmnmjoaaGreat
open Go.RowKit Go.Sl
attribute [local irreducible] Sl.Own
structure SdY where
  x:Option Addr×Nat
  l:List UInt8
  e:Nat
  D:aw
abbrev SdY.t(k:Nat)(y:SdY):List Value:=[ii (if y.e=0 then 0 else(k:Int)),i6 y.e]
def SdOk(D:aw)(n:Nat)(K:Kd)(c:Nat)(l:List UInt8)(y:SdY):Prop:=(y.e=0/\y.l=l/\Bq2 y.D n K c/\Did D y.D 1)\/(y.e=50/\y.l=[]/\Bq1 D 1 y.D n K c)
theorem rsecd_ok{W:World}{R:List ab}{D:aw}{K:Kd}{V:Nat->Nat->List UInt8}{n c0:Nat}(r:Nat)(X:eA)(f:X.ok)(j:X.wl=[])(fr:List Int)(m:Data X fr K V)(E:bq W R X.wo X.wl)(C:Bq2 D n K c0)(k:Nat)(t:k<X.m)(row:Nat)(g:row<X.s*X.c)(i:¬gB fr k row):
  aq W Tryz.prog 161 [ip r,ii k,ii row] (de r X fr (al X.b D::R)) (β:=SdY) (SdOk D n K c0 (V k row)) (λy=>.tuple #[.slice y.x.1 y.l.length y.x.2,.agg (y.t k).toArray]) (λy=>b8 y.x y.l::de r X fr (al X.b y.D::R)):=by
 have F:X.s*X.c<=256*16:=RC f.s.2 f.c.2;have z:∀o:Nat,ae W (Sl.Own 3 1 (.slice (ik X.fa) X.m X.m) X.m (j8 fr)::al X.b D::Row o 172 [ii 0,i6 0]::R) R:=λo=>ae.drop (ae.drop (ae.drop ae.refl));obtain⟨H,q,u,b⟩:=m.is k row t g i;have b:=b (by rw[j];rfl);obtain⟨l,en,d,v,B⟩:∃l,∃en:Nat,∃d,D.read (k:Int) ((1+row:Nat):Int)=((l,(en:Int)),d)/\∀x,SdOk D n K c0 (V k row) ⟨x,l,en,d⟩:=by
  rcases C.read (a:=1+row) q (by omega)with⟨d,e,p,A⟩|⟨d,e,p⟩
  · exact⟨_,0,d,e,λ_=>.inl ⟨rfl,b,p,A⟩⟩
  · exact⟨_,50,d,e,λ_=>.inr ⟨rfl,rfl,p⟩⟩
 have c:=λR=>nk (W:=W) (R:=R) X.b D k ((1+row:Nat):Int);rw[v,show sliceB=λ(x:Option Addr×Nat)(l:List UInt8)=>Value.slice x.1 l.length x.2 from rfl]at c;refine ze Tryz.func161 Tryz.ntmps161 ?_;refine zq ?_;refine ay.aB sb_172 rfl ?_;intro o;refine zr (s:=xQ r X k) (h:=?_);intro _ _;rw[ky (show 0<=(k:Int)/\(k:Int)<X.m by omega)];refine zt (s:=gn f.m f.c f.s) (h:=?_);intro _ _;refine w ?_;refine VC.aK rfl rfl (gx (by omega)) ?_;refine zr (s:=xU r X k row (E.aR (z o)) m.y0 m.y4) (h:=?_);intro y _;rw[show cq X.wl (k:Int) (row:Int)=none by rw[j];rfl];refine zr (s:=jL r X fr m.len k t row) (h:=?_);intro _ _;rw[gx i];refine w ?_;refine VO.re 57 (ii ((1+row:Nat):Int)) rfl (by congr 1) ?_;refine zr (s:=c _) (h:=?_);intro x G;refine zt (s:=l8 k en) (h:=?_);intro _ _;refine zS (SdY.t k ⟨x,l,en,d⟩) ?_;exact VE.results2 (.inl rfl) (⟨x,l,en,d⟩:SdY) rfl (.tmp rfl) (aL.agg (vs:=SdY.t k ⟨x,l,en,d⟩) ah rfl rfl zm rfl rfl) (B x) rfl ae.re
end Go.Proofs.YtldolcbbmnmjoaaGreat
namespace Go.Proofs.YtldolcbbmnmjoaaGreat
open Go.RowKit Go.Sl
attribute [local irreducible] Sl.Own
structure BrdY where
  D:aw
  l:List aj
  x:Option Addr×Nat
  e:Nat
  s:Nat
def ErrOk(D:aw)(n:Nat)(K:Kd)(c N e:Nat)(D':aw):Prop:=(e=0/\Bq2 D' n K c/\Did D D' N)\/(e=50/\Bq1 D N D' n K c)
def rdN(m c row:Nat)(l:List aj):Nat:=(lD m (eD m (row/c)) ((l.map aj.D).map (·.av)) (xw m (l.map aj.D).length)).length
theorem browd_ok{W:World}{R:List ab}{D:aw}{K:Kd}{V V':Nat->Nat->List UInt8}{n c0 row:Nat}{q:cu}(c:Nat)(x:mX)(Y:eA)(hY:Y.ok)(fr:List Int)(hF:Data Y fr K V)(bw:∀k row,k<Y.m->¬gB fr k row)(cr:Y.wl=[])(v:bq W R Y.wo Y.wl)(hq:Bq2 D n K c0)
  (hl:fZ Y.m Y.c Y.s row q.aA)(ad:bq W R q.ao q.aA)(hN:Fe Y.m Y.c Y.s row V V' q.aA)(dc:x.ps.length<=100000):
  aq W Tryz.prog 248 [ip c,.slice q.ao q.aA.length q.cap] (gU c x (de x.r Y fr (al Y.b D::R))) (β:=BrdY) (λy=>ErrOk D n K c0 (rdN Y.m Y.c row q.aA) y.e y.D/\(y.e=0->Qm Y.m Y.c row V' q.aA y.l)) (λy=>.agg (trT y.s y.e).toArray)
   (λy=>gU c (x.jk (x.ps++y.l) y.x) (de x.r Y fr (al Y.b y.D::R))):=by
 have bk:=hY.m;have bp:0<q.aA.length:=CD.2 hl.ne;have cw:=hl.mx bk.1;obtain⟨la,cc⟩:=hl.some ad;have ck:(bg q.aA)[0*3+1]?=some (ii (row:Nat)):=by rw[si q.aA 0 1 bp (by decide),<-(hl.of 0 bp).2.2.1];rfl
 have t:=hl.row;rw[cc]at ad⊢;refine ze Tryz.func248 Tryz.ntmps248 ?_;refine zq ?_;refine ay.aB sb_172 rfl ?_;intro A;refine zw ?_;refine ay.dd (m:=Y.m) NI rfl rfl rfl (by omega) (by simp only[maxLen];omega) rfl ?_;intro o;refine w ?_
 refine VC.loop (α:=Nat) (λi=>i<=Y.m) (λ_=>Sl.Own 4 1 (.slice (ik o) Y.m Y.m) Y.m (D8 Y.m)::Row A 172 cD::gU c x (de x.r Y fr (al Y.b D::R)))
  (λi=>[(0,ip c),(1,.slice (some la) q.aA.length q.cap),(4,ip A),(5,.slice (ik o) Y.m Y.m),(24,.slice (ik o) Y.m Y.m),(25,ii Y.m),(26,ii i)]) (λi=>Y.m-i) rfl 0 (c7 _) ae.re ⟨rfl,rfl,rfl,rfl,rfl,rfl,rfl,trivial⟩ ?_
 ·
  intro i C;have eR:ae W (Sl.Own 4 1 (.slice (ik o) Y.m Y.m) Y.m (D8 Y.m)::Row A 172 cD::gU c x (de x.r Y fr (al Y.b D::R))) R:=ae.drop (ae.drop (ae.drop (ae.drop (ae.drop (ae.drop (ae.drop (ae.drop ae.refl)))))));refine w ?_;refine zk ?_ ?_<;>intro hc
  ·
   have r:i<Y.m:=by have:=cI hc;omega
   clear hc;refine w ?_;refine zx [11] 12 [0,1,2,3,4,5,6,7,8,9,10,11,12,13] _ ?_;refine w ?_;((first|apply VO.pure rfl rfl|apply VQ.pure rfl rfl|apply VD.take rfl rfl rfl|(refine VD.end rfl rfl rfl ?_;apply ay.pure));exact .fH ah rfl rfl (ad.gz.aR eR) ck;rfl);refine zr (s:=jL x.r Y fr hF.len i r row) (h:=?_);intro _ _;rw[gx (bw i row r)];refine zw ?_;refine ay.EJ ah rfl rfl rfl rfl zh (by rw[j0];omega) ?_;rw[show(D8 Y.m).set i (.bool false)=D8 Y.m by rw[List.set_replicate_self]];refine w ?_;exact VE.round (i+1) r (by omega) ⟨rfl,rfl,rfl,rfl,rfl,rfl,b7 rfl (by congr 1),trivial⟩ ae.re
  clear hc C;have hd:∀H,Sl.Own 4 1 (.slice (ik o) Y.m Y.m) Y.m (D8 Y.m)∈H->aV W H 1 (ik o) Y.m (D8 Y.m):=λH m=>aV.own (λu hu=>by rw[Og hu];rfl) m (by simp) (by simp);refine zr (s:=Ax (R:=Sl.Own 4 1 (.slice (ik o) Y.m Y.m) Y.m (D8 Y.m)::Row A 172 cD::gU c x (de x.r Y fr (al Y.b D::R))) hY.m hY.c hY.s hl (hd _ (.head _)) (ad.aR eR)) (h:=?_);intro p Q;obtain rfl:p.row=row:=Q.row;refine VO.bH (λw v=>v.bn (.head _)) ?_;intro ca;refine VO.bH (λw v=>bX.bH ((ae.re:ae W _ [bX p.aA]) w v)) ?_;intro cb;refine VO.bH (λw v=>v.bn (.tail _ (.tail _ (.head _)))) ?_;intro bm;have ag:fZ Y.m Y.c Y.s p.row p.aA:=hl.Tt Q.D;have ch:∀x∈p.aA,x.d.data.length=128:=λx hx=>by
   obtain⟨i,C,rfl⟩:=List.mem_iff_getElem.1 hx;exact(ag.of i C).2.2.2.2
  have av:∀k∈p.reads,k<Y.m:=λk F=>by
   rw[Q.reads]at F;unfold lD at F;split at F
   · exact HC.1 (KO.1 F).1
   ·
    split at F
    · exact HC.1 (KO.1 F).1
    · cases F
  have dr:p.reads.length<=16:=by
   rw[Q.reads];unfold lD;split
   · exact RB (uy _ _) (by rw[KN];omega)
   ·
    split
    · exact RB (uy _ _) (by rw[KN];omega)
    · exact c7 _
  have bf:p.reads.length=rdN Y.m Y.c p.row q.aA:=by unfold rdN;rw[Q.reads,Q.md]
  have cY:p.aA.length=q.aA.length:=by have:=JB List.length Q.D;rwa [ew,ew]at this
  have bh:∀H,bL (p.po,p.pc) p.aA∈H->bX p.aA∈H->jC (p.ro,p.rc) p.reads∈H->oA W H p:=λH m1 m2 m3=>⟨bq.own ca cb m1 m2,aV.own (D7 _) m3 (by simp) bm,⟨by omega,by omega⟩,λx hx=>by rw[ch x hx];decide⟩;refine zw ?_;refine ay.aB sb_375 rfl ?_;intro n7;refine zS p.cells ?_;refine zq ?_;refine ay.dd (m:=Y.m) yf rfl rfl rfl (by omega) (by simp only[maxLen];omega) rfl ?_;intro J;refine w ?_;refine VC.aR (H':=Sl.Own 38 1 (.slice (ik J) Y.m Y.m) Y.m ((List.replicate Y.m BM).map aU.ei)::cP [BM]::QX n7 A o p c x Y fr D R) (ae.trans (ae.re (L:=Sl.Own 38 1 (.slice (ik J) Y.m Y.m) Y.m (List.replicate Y.m (.slice none 0 0))::QX n7 A o p c x Y fr D R)) (λw v=>by rw[List.map_replicate];exact(du (res:=aU.res) (l:=[]) (a:=BM) (((di (res:=aU.res) v).aZ 5 1))).swap)) ?_;have ct:∀D',ae W (QX n7 A o p c x Y fr D' R) R:=λD'=>ae.drop (ae.drop (ae.drop (ae.drop (ae.drop (ae.drop (ae.drop (ae.drop (ae.drop (ae.drop (ae.drop (ae.drop ae.refl)))))))))))
  refine VC.loop (α:=Nat×List aU×List aU×aw) (λy=>y.1<=p.reads.length/\y.2.1.length=Y.m/\(∀e∈y.2.1,e∈y.2.2.1)/\(∀j (h:j<p.reads.length),j<y.1->ij y.2.1 p.reads[j]=V p.reads[j] p.row)/\Bq2 y.2.2.2 n K c0/\Did D y.2.2.2 y.1)
   (λy=>Sl.Own 38 1 (.slice (ik J) Y.m Y.m) Y.m (y.2.1.map aU.ei)::cP y.2.2.1::QX n7 A o p c x Y fr y.2.2.2 R)
   (λy=>[(0,ip c),(4,ip A),(5,.slice (ik o) Y.m Y.m),(7,ip n7),(9,.slice (ik J) Y.m Y.m),(70,.slice p.ro p.reads.length p.rc),(71,ii p.reads.length),(72,ii y.1)]) (λy=>p.reads.length-y.1) rfl (0,List.replicate Y.m BM,[BM],D)
   ⟨c7 _,j0,λe X=>by rw[Og X];exact .head _,λj _ h=>lcs h (Nat.not_lt_zero j),hq,.refl D⟩ ae.refl ⟨rfl,rfl,rfl,rfl,rfl,rfl,rfl,rfl,trivial⟩ ?_
  rintro⟨i,L,G,D'⟩ ⟨C,E,M,an,au,B⟩;dsimp only at C E M an au B⊢;refine w ?_;refine zk ?_ ?_<;>intro hc
  ·
   have r:i<p.reads.length:=by have:=cI hc;omega
   clear hc;have Z:=av _ (fF r);have bs:=(bh (Sl.Own 38 1 (.slice (ik J) Y.m Y.m) Y.m (L.map aU.ei)::cP G::QX n7 A o p c x Y fr D' R) zm zm zm).reads;obtain⟨qa,br⟩:∃x,p.ro=some x:=by cases e:p.ro with|none=>have:=bm e;omega|some x=>exact⟨x,rfl⟩
   have U:=hF.mu p.reads[i] p.row Z t;obtain⟨k,F⟩:∃k,p.reads[i]=k:=⟨_,rfl⟩;rw[F]at Z U;obtain⟨vd,ba⟩:∃l,V k p.row=l:=⟨_,rfl⟩;rw[ba]at U;have T:=λS (e:ae W S R)=>rsecd_ok (W:=W) (R:=S) x.r Y hY cr fr hF (v.aR e) au k Z p.row t (bw k p.row Z);rw[ba]at T;rw[show(Value.slice p.ro p.reads.length p.rc)= .slice (some qa) p.reads.length p.rc by rw[br]];rw[br]at bs;refine w ?_;((first|apply VO.pure rfl rfl|apply VQ.pure rfl rfl|apply VD.take rfl rfl rfl|(refine VD.end rfl rfl rfl ?_;apply ay.pure));exact .fH ah rfl rfl bs (show(tq p.reads)[i]?=some (ii (k:Nat))by rw[law,fL r,F];rfl);rfl);refine w ?_
   refine VC.join (α:=SdY×Nat) (λy=>SdOk D' n K c0 vd y.1) (λy=>Row y.2 172 (y.1.t k)::b8 y.1.x y.1.l::Sl.Own 38 1 (.slice (ik J) Y.m Y.m) Y.m (L.map aU.ei)::cP G::QX n7 A o p c x Y fr y.1.D R)
    (λy=>[(0,ip c),(4,ip A),(5,.slice (ik o) Y.m Y.m),(7,ip n7),(9,.slice (ik J) Y.m Y.m),(11,ii (k:Nat)),(12,.slice y.1.x.1 y.1.l.length y.1.x.2),(13,ip y.2),(70,.slice (some qa) p.reads.length p.rc),(71,ii p.reads.length),(72,ii i)]) ?_ ?_
   ·
    intro Q2 jn;refine VC.vw [7,11] 13 [0,1,2,3,4,5,6] [[7,8,9,10,11,12,13],[11,7,8,9,10,12,13]] (Row n7 375 p.cells::Row c 256 x.cells:: []) rfl (by kernel_rfl) (by kernel_rfl) ae.re ?_;refine w ?_;refine VE.vf ?_ ?_
    ·
     refine zr (s:=T (Sl.Own 38 1 (.slice (ik J) Y.m Y.m) Y.m (L.map aU.ei)::cP G::Row n7 375 p.cells::bL (p.po,p.pc) p.aA::bX p.aA::jC (p.ro,p.rc) p.reads::Sl.Own 4 1 (.slice (ik o) Y.m Y.m) Y.m (D8 Y.m)::Row A 172 cD::gU c x R) (ae.drop (ae.drop (ae.drop (ae.drop (ae.drop (ae.drop (ae.drop (ae.drop (ae.drop (ae.drop (ae.drop ae.refl)))))))))))) (h:=?_);intro y2 I;refine zw ?_;refine ay.aB sb_172 rfl ?_;intro n13;refine zS (y2.t k) ?_;exact jn.to (y2,n13) I ⟨rfl,rfl,rfl,rfl,rfl,rfl,rfl,rfl,rfl,rfl,rfl,trivial⟩ ae.re
    ·
     refine zq ?_;refine ay.aB sb_172 rfl ?_;intro n13;refine zr (s:=T (Row n13 172 cD::Sl.Own 38 1 (.slice (ik J) Y.m Y.m) Y.m (L.map aU.ei)::cP G::Row n7 375 p.cells::bL (p.po,p.pc) p.aA::bX p.aA::jC (p.ro,p.rc) p.reads::Sl.Own 4 1 (.slice (ik o) Y.m Y.m) Y.m (D8 Y.m)::Row A 172 cD::gU c x R) (ae.drop (ae.drop (ae.drop (ae.drop (ae.drop (ae.drop (ae.drop (ae.drop (ae.drop (ae.drop (ae.drop (ae.drop ae.refl))))))))))))) (h:=?_);intro y2 I;refine zS (y2.t k) ?_;exact jn.to (y2,n13) I ⟨rfl,rfl,rfl,rfl,rfl,rfl,rfl,rfl,rfl,rfl,rfl,trivial⟩ ae.re
   rintro⟨⟨x2,l2,en,D2⟩,n13⟩ hA;dsimp only at hA⊢;rcases hA with⟨O,P,I,N⟩|⟨O,P,N⟩
   rotate_left
   ·
    dsimp only at O P N;subst O P;refine zS (trT k 50) ?_;refine VE.results1 (.inl rfl) (⟨D2,[],(x.pa,x.pp),50,k⟩:BrdY) rfl (aL.agg (vs:=trT k 50) ah rfl rfl zm rfl rfl) ⟨.inr ⟨rfl,(N.after B hq.c8.1).mono (by rw[<-bf];exact r) (eI _)⟩,λq=>by cases q⟩ rfl ?_;dsimp only;rw[mn];exact ae.re
   dsimp only at O P I N;subst O P;obtain⟨e,X⟩:∃e:aU,e=⟨x2.1,x2.2,l2⟩:=⟨_,rfl⟩;rw[show b8 x2 l2=e.res by rw[X];rfl];refine zw ?_;refine ay.EJ ah rfl rfl rfl rfl zh (by rw[ew,E];omega) ?_;rw[show Value.slice x2.1 l2.length x2.2=e.ei by rw[X],<-List.map_set];refine w ?_;refine VE.round (i+1,L.set k e,G++[e],D2) ⟨r,by rw[Ub];exact E,λz hz=>?_,λj hj cy=>?_,I,B.trans N⟩ (by dsimp only;omega) ⟨rfl,rfl,rfl,rfl,rfl,rfl,rfl,b7 rfl (by congr 1),trivial⟩ ?_
   ·
    rcases List.mem_or_eq_of_mem_set hz with h|h
    · exact List.mem_append_left _ (M z h)
    · rw[h];exact List.mem_append_right _ (.head _)
   ·
    dsimp only;rw[LU (by omega)];split
    · rename_i g;rw[X,g];exact ba.symm
    ·
     rename_i g;refine an j hj ?_;rcases w9 j i with h|h
     · exact h
     ·
      obtain rfl:j=i:=by omega
      exact lcs F g
   ·
    dsimp only;exact λw v=>(ae.re:ae W (cP (G++[e])::_) _) w (du (res:=aU.res) (a:=e) ((ae.re:ae W _ (e.res::cP G::Sl.Own 38 1 (.slice (ik J) Y.m Y.m) Y.m ((L.set k e).map aU.ei)::QX n7 A o p c x Y fr D2 R)) w v))
  have bG:i=p.reads.length:=by have:=dx hc;omega
  clear hc;subst bG;refine VC.bH (λw v=>cP.bH ((ae.re:ae W _ [cP G]) w v)) ?_;intro bo;have bE:∀H,Sl.Own 38 1 (.slice (ik J) Y.m Y.m) Y.m (L.map aU.ei)∈H->cP G∈H->qI W H (ik J) L:=λH m1 m2=>⟨by rw[E];exact aV.own (nM L) m1 (by rw[ew,E];omega) (by simp),λe X=>aV.cG m2 (M e X) λR m=>aU.gz (bo e (M e X)) m,λe X=>bo e (M e X)⟩;have bb:∀i∈p.reads,ij L i=V i p.row:=λi C=>by
   obtain⟨j,hj,rfl⟩:=List.mem_iff_getElem.1 C;exact an j hj hj
  have hx:=PY (md:=p.md) (L:=L) hl bk.1 (by rw[Q.md,ew]) (λi C=>by rw[<-Q.reads]at C;exact bb i C) (λk F=>hF.mu k _ F t) hN.n (hF.par _ t) hN.par hN.is hN.KT;rw[<-Q.reads]at hx;refine w ?_;refine zx [10] 15 [0,1,2,3,4,5,6,7,8,9,10,11,12,13,14,15] _ ?_;refine zt (s:=Eg hY.m hY.c hY.s ag (hd _ zm) (bh _ zm zm zm) Q (bE _ zm zm) E (λi C=>⟨av i C,by rw[bb i C];exact hF.mu i _ (av i C) t⟩)) (h:=?_);rintro⟨b,bx⟩ aa;dsimp only at aa⊢;rw[hx]at aa;have cS:b.length=q.aA.length+1:=by have:=aa.length_eq;rwa [ew,c9,ew,ie]at this
  refine zw ?_;refine ay.append st_126 rfl rfl zh (λw v=>(show jW w 3 (.slice bx.1 b.length bx.2) b.length (bg b)from jW.own (e:=207) (xG _) v zm).src st_126.tZ) (by simp only[maxLen];omega) (by omega) rfl ?_;intro f d;refine zr (s:=l8 0 0) (h:=?_);intro _ _;refine zS cD ?_;refine VE.results1 (.inl rfl) (⟨D',b,(f,d),0,0⟩:BrdY) rfl (aL.agg (vs:=cD) ah rfl rfl zm rfl rfl) ⟨.inl ⟨rfl,au,by rw[<-bf];exact B⟩,λ_=>⟨aa⟩⟩ rfl ?_;have e1:bL (f,d) (x.ps++b)=Sl.Own 207 3 (.slice f (x.ps.length+b.length) d) (x.ps.length+b.length) (bg x.ps++bg b):=by
   unfold bL;rw[show bg (x.ps++b)=bg x.ps++bg b from E5,c9]
  have e2:(x.jk (x.ps++b) (f,d)).cells=[ip x.r,.slice x.po x.l.length x.pc,.slice x.xo x.out.length x.xc,.slice f (x.ps.length+b.length) d]:=by
   unfold mX.cells mX.jk;rw[c9]
  show ae W _ (Row c 256 (x.jk (x.ps++b) (f,d)).cells::bL (f,d) (x.ps++b)::bX (x.ps++b)::de x.r Y fr (al Y.b D'::R));rw[e1,e2];exact λw v=>(ae.re:ae W (bX (x.ps++b)::_) _) w (Aw ((ae.re:ae W _ (bX x.ps::bX b::Row c 256 [ip x.r,.slice x.po x.l.length x.pc,.slice x.xo x.out.length x.xc,.slice f (x.ps.length+b.length) d]::Sl.Own 207 3 (.slice f (x.ps.length+b.length) d) (x.ps.length+b.length) (bg x.ps++bg b)::de x.r Y fr (al Y.b D'::R))) w v))
def rdQ(m c:Nat)(q:cu):Nat:=rdN m c (rowQ q.aA) q.aA
def rdS(m c:Nat)(out:List cu):Nat:=(out.map (rdQ m c)).sum
section
variable{W:World}{R:List ab}
theorem bworkd_ok{D:aw}{K:Kd}{V F:Nat->Nat->List UInt8}{n c0:Nat}(l:Nat)(x:mX)(hx:x.ps=[])(Y:eA)(U:Y.ok)(fr:List Int)(hF:Data Y fr K V)(N:∀k row,k<Y.m->¬gB fr k row)(O:Y.wl=[])(hw:bq W R Y.wo Y.wl)(B:Bq2 D n K c0)(hB:Ol Y V F x.out)
  (f:aV W R 1 x.xo x.out.length (x.out.map cu.ei))(Q:∀q∈x.out,bq W R q.ao q.aA)(o:kz x.out<=1023)(r:(x.out.map λq=>rowQ q.aA).Nodup):
  aq W Tryz.prog 164 [ip l] (gU l x (de x.r Y fr (al Y.b D::R))) (β:=BrdY) (λy=>ErrOk D n K c0 (rdS Y.m Y.c x.out) y.e y.D/\(y.e=0->iV Y F x.out y.l)) (λy=>.agg (trT y.s y.e).toArray)
   (λy=>gU l (x.jk y.l y.x) (de x.r Y fr (al Y.b y.D::R))):=by
 have X:∀u∈x.out.map cu.ei,u.oneCell'=true:=λu hu=>by obtain⟨z,_,rfl⟩:=fG.1 hu;rfl
 have Z:x.out.length<=1023:=by unfold kz at o;omega
 refine ze Tryz.func164 Tryz.ntmps164 ?_;refine zq ?_;refine ay.aB sb_172 rfl ?_;intro C;refine w ?_
 refine VC.loop (α:=Nat×List aj×(Option Addr×Nat)×aw) (λy=>y.1<=x.out.length/\(Bq2 y.2.2.2 n K c0/\Did D y.2.2.2 (rdS Y.m Y.c (x.out.take y.1)))/\iV Y F (x.out.take y.1) y.2.1) (λy=>Row C 172 cD::gU l (x.jk y.2.1 y.2.2.1) (de x.r Y fr (al Y.b y.2.2.2::R)))
  (λy=>[(0,ip l),(2,ip C),(9,.slice x.xo x.out.length x.xc),(10,ii x.out.length),(11,ii y.1)]) (λy=>x.out.length-y.1) rfl (0,[],(x.pa,x.pp),D) ⟨c7 _,⟨B,.refl D⟩,⟨λp I=>(by cases I),rfl,λq B=>(by cases B),List.nodup_nil,λp I=>(by cases I)⟩⟩ (by rw[show x.jk [] (x.pa,x.pp)=x by cases x;dsimp only at hx;subst hx;rfl];exact ae.re) ⟨rfl,rfl,rfl,rfl,rfl,trivial⟩ ?_
 rintro⟨j,ps,xp,D'⟩ ⟨hj,⟨d,b⟩,hW⟩;dsimp only at hj d b hW⊢;refine w ?_;refine zk ?_ ?_<;>intro v
 ·
  have c:j<x.out.length:=by have:=cI v;omega
  clear v;obtain⟨xa,P⟩:∃a,x.xo=some a:=by cases e:x.xo with|none=>rw[e]at f;have:=f.nil rfl;omega|some a=>exact⟨a,rfl⟩
  rw[P]at f⊢;obtain⟨row,A,T⟩:=hB.rows _ (fF c);have J:ps.length<=100000:=by
   rw[hW.n];have:kz (x.out.take j)<=kz x.out:=by
    unfold kz Ed;have e:(x.out.map λq=>q.aA.length).sum=((x.out.take j).map λq=>q.aA.length).sum+((x.out.drop j).map λq=>q.aA.length).sum:=by rw[<-lcm,<-jv,QB]
    rw[j1,e];omega
   omega
  have eR:ae W (Row C 172 cD::gU l (x.jk ps xp) (de x.r Y fr (al Y.b D'::R))) R:=ae.drop (ae.drop (ae.drop (ae.drop (ae.drop (ae.drop (ae.drop ae.refl))))));refine w ?_;refine VO.pure rfl rfl (.fH ah rfl rfl (f.aR eR) (show(x.out.map cu.ei)[j]?=some (cu.ei x.out[j])by rw[law,fL c];rfl)) rfl ?_;refine zr (s:=browd_ok (R:=Row C 172 cD::R) l (x.jk ps xp) Y U fr hF N O (hw.aR (ae.drop ae.refl)) d A ((Q _ (fF c)).aR (ae.drop ae.refl)) T J) (h:=?_);rintro⟨S,l2,x2,en,E⟩ ⟨G,t⟩;dsimp only at G t⊢;have M:rdN Y.m Y.c row x.out[j].aA=rdQ Y.m Y.c x.out[j]:=by unfold rdQ;rw[rowQ_of A]
  have g:rdS Y.m Y.c (x.out.take (j+1))=rdS Y.m Y.c (x.out.take j)+rdQ Y.m Y.c x.out[j]:=by
   rw[nZ c];unfold rdS;rw[jv,lcm];rfl
  rw[M]at G;refine zw ?_;refine ay.aB sb_172 rfl ?_;intro n5;refine zS (trT E en) ?_;rcases G with⟨rfl,L,m⟩|⟨rfl,m⟩
  rotate_left
  ·
   refine zS (trT E 50) ?_;refine VE.results1 (.inl rfl) (⟨S,ps++l2,x2,50,E⟩:BrdY) rfl (aL.agg (vs:=trT E 50) ah rfl rfl zm rfl rfl) ⟨.inr ⟨rfl,(m.after b B.c8.1).mono ?_ (eI _)⟩,λq=>by cases q⟩ rfl ae.re;rw[<-g];have e:rdS Y.m Y.c x.out=rdS Y.m Y.c (x.out.take (j+1))+rdS Y.m Y.c (x.out.drop (j+1)):=by unfold rdS;rw[<-lcm,<-jv,QB]
   omega
  have t:=t rfl;refine w ?_;refine VE.round (j+1,ps++l2,x2,S) ⟨c,⟨L,by dsimp only;rw[g];exact b.trans m⟩,?_⟩ (by dsimp only;omega) ⟨rfl,rfl,rfl,rfl,b7 rfl (by congr 1),trivial⟩ ae.re;dsimp only;rw[nZ c];refine hW.step U.m.1 A T t λq' d e=>?_;obtain⟨i,hi,rfl⟩:=List.mem_iff_getElem.1 d;rw[j1]at hi;rw[List.Nodup,List.pairwise_map,List.pairwise_iff_getElem]at r;refine r i j (by omega) c (by omega) ?_;rw[rowQ_of A,<-e,List.getElem_take]
 have H:j=x.out.length:=by have:=dx v;omega
 clear v;subst H;rw[SP]at hW b;refine w ?_;apply VO.pure rfl rfl;apply af.build sb_172 (pv:=[]) rfl;rfl;rfl;refine zS cD ?_;exact VE.results1 (.inl rfl) (⟨D',ps,xp,0,0⟩:BrdY) rfl (aL.agg (vs:=cD) ah rfl rfl zm rfl rfl) ⟨.inl ⟨rfl,d,b⟩,λ_=>hW⟩ rfl ae.re
end
end Go.Proofs.YtldolcbbmnmjoaaGreat
namespace Go.Sl
open Go Go.RowKit
section
variable{W:World}{P:Program}{n:Nat}{m:Md}{c:Code}{Q:Exit->Act->World->Prop}{H H' L R G G':List ab}{f F:Fr}{N:List ab->Fr->Prop}
variable{dst:Option Tmp}{ty_:TypeId}{pos:String}{after:Array Edge}{guard:Option (Nat×Bool)}{mv ord r:List Nat}{tl i x d e:Nat}{X:Nat->ab}{vx:Nat->Value}
theorem VR.plain(h:VC W P n c (EE (Md.mk none []).df Q) H f):VR W P n ⟨none,[]⟩ c Q H f:=by
 unfold VC at h;unfold VR;intro b t w j k;refine wpIn_wide.2 (Code.wp_mono ?_ (h t w j k));intro e a l q;unfold EE at q;have q:=q b;have g:gj a []=a:=by unfold gj;rw[mn]
 rwa [g]at q
theorem dG.Fi{t:TypeId}{z:Value}{cs:List Value}(j:∀w,(zeroValue t).run P w= .ok z w)(a:z.cells=cs.toArray)(g:Nat.blt d n=true):dG W P n {dst:=some d,op:= .alloc t,type:=ty_,pos,after,guard:=none} d (λb=>Row b t cs) (λb=>ip b):=
 ⟨λQ H f N h=>ay.alloc j a g h,rfl⟩
theorem aq.under{g:FuncId}{args:List Value}{K:ab}{β:Type}{A:β->Prop}{r:β->Value}{S:β->List ab}(h:∀R,aq W P g args (K::R) A r (λx=>S x++R))(M R:List ab):aq W P g args (M++K::R) A r (λx=>M++(S x++R)):=
 fX (λw a=>a.perm xb) (aq.mono (h (M++R)) (λx=>x) (λ_ q=>q) (λ_ _=>rfl) (λx _ w a=>a.perm (List.perm_append_comm_assoc _ _ _)))
theorem VX.uk{ox:Oper}{y:Operand}{xs:Array Operand}{ats:Array TypeId}{g:FuncId}{cap:Array Value}{vs:List Value}{β:Type}{A:β->Prop}{V:β->Value}{K:ab}{S:β->List ab}
  (ho:(aG c)[i]?=some {dst:=some e,op:= .call {callee:= .value y,args:=xs,argTypes:=ats},type:=ty_,pos,after,guard})(T:Nat.beq i x=false)(hm:mv.contains i=true)(hg:gA (aG c) guard f=some true)
  (hx:aD f y=some (.func (.func g) #[] cap))(ha:jo f xs.toList=some vs)(hc:∀a w,(callFunc g a).run P w= .ok (.enter g a) w)(spec:∀R,aq W P g (vs++cap.toList) (K::R) A V (λx=>S x++R))(hH:aP H (K::H'))
  (U:(aG c)[x]?=some ox)(Y:dG W P n ox d X vx)(hR:ae W H R)(C:∀z,A z->ae W (S z++H') R)(hd:Nat.blt e n=true)(O:look f d=none)(M:Nat.beq e d=false)(h:∀z,A z->VX W P n c R mv tl x d X vx r Q (S z++H') ((e,V z)::f)):VX W P n c R mv tl x d X vx (i::r) Q H f:=by
 have D:i≠x:=by intro q;subst q;simp at T
 have second:∀b t w,bS n ((d,vx b)::f) t->Holds W (X b::H) w->fo P (aG c).toArray Q (Holds W R) mv tl (i::r.erase x) ⟨t,[]⟩ w:=by
  intro b t w l s;have j:=l.under O;refine .inl ⟨by unfold BK;rw[hm];rfl,?_⟩;unfold wpOp;simp only[List.getElem?_toArray,ho];rw[lam (j.wanted (o:={dst:=some e,op:= .call {callee:= .value y,args:=xs,argTypes:=ats},type:=ty_,pos,after,guard}) hg)];have I:=aq.under spec [X b] H';refine .inl ?_;have p:xs.map (Act.eval ⟨t,[]⟩)=vs.toArray:=by
   have:=j.args ha;apply Array.ext';simpa using this
  unfold aq at I;have I:=I w ((aP.aR (aP.cons .head hH)) w s);unfold Oper.wp execOp;simp only[resolve,j.eval hx,p,Deferred.ofValue,invoke,Sem.run_bind,Sem.run_pure,Result.andThen_ok,hc,Oper.upon];have e9:#[]++vs.toArray++cap=(vs++cap.toList).toArray:=by simp
  rw[e9];refine Calls.mono I ?_;rintro e8 E ⟨z,Z,rfl,hG⟩;have B:=h z Z;unfold VX at B;exact⟨λ_=>C z Z _ hG.tail,B.2 b _ E ((l.put hd).swap M) hG⟩
 unfold VX;refine⟨λt w l s=>.inr (.inl ⟨D,hm,?_,?_⟩),λb t w l s=>by rw[List.erase_cons_tail (by simpa using D)];exact second b t w l s⟩
 ·
  unfold wpOp;simp only[List.getElem?_toArray,ho];rw[lam (l.wanted (o:={dst:=some e,op:= .call {callee:= .value y,args:=xs,argTypes:=ats},type:=ty_,pos,after,guard}) hg)];have:=ay.call (W:=W) (n:=n) (d:=e) (ty_:=ty_) (pos:=pos) (after:=after) (guard:=guard) (ats:=ats) (Q:=eF Q) (f:=f) (H:=H) (N:=λu v=>∃z,A z/\u=S z++H'/\v=(e,V z)::f) hx ha hc (spec H') (aP.aR hH) hd (λz J=>⟨z,J,rfl,rfl⟩);unfold ay at this;refine .inl (this t w l s _ ?_);rintro u v ⟨z,J,rfl,rfl⟩ t' E j k;have B:=h z J;unfold VX at B;exact⟨C z J _ k,B.1 t' E j k⟩
 ·
  unfold wpOp;simp only[List.getElem?_toArray,U];rw[lam (by unfold Region.wanted;rw[Y.guard])];have:=Y.run (eF Q) H f (λu v=>∃b,u=X b::H/\v=(d,vx b)::f) (λb=>⟨b,rfl,rfl⟩);unfold ay at this;refine .inl (this t w l s _ ?_);rintro u v ⟨b,rfl,rfl⟩ t' E j k;exact⟨hR _ k.tail,second b t' E j k⟩
end
end Go.Sl
namespace Go.Proofs.YtldolcbbmnmjoaaGreat
open Go.RowKit Go.Sl
attribute [local irreducible] Sl.Own
abbrev sF(s:iu)(r wp:Nat)(fr:List Int)(R:List ab):List ab:=de r s.Y fr (A0 wp s.Y.b s.v s.D R)
section
variable{W:World}{R:List ab}{s:iu}{n wp:Nat}{fr:List Int}{V V':Nat->Nat->List UInt8}
abbrev VH(s:iu)(y:Nat×iu):Value:= .agg (trJ s.Y.m y.1).toArray
theorem OI(f:Nat)(x:mX)(h:s.okl n wp fr V)(u:s.v.sure=true)(B:s.c<=1000000)(j:∀p∈x.ps,p.Of s.Y)(E:1<=x.ps.length)(J:2*x.ps.length+1<=s.v.size-s.v.used):
  aq W Tryz.prog 165 [ip f] (gU f x (sF s x.r wp fr R)) (β:=Nat×iu) (λy=>y.2.Y=s.Y/\((y.1=0/\y.2.okl n wp fr V/\s.to y.2/\y.2.v=RH s.v x.ps/\y.2.x=s.x.jl 1 (x.ps.map aj.D)/\y.2.c=s.c/\Did s.D y.2.D (2*x.ps.length+1))\/(y.1=50/\Went s n wp fr (·=V) (2*x.ps.length+1) (s.c+3000) y.2.D))) (VH s) (λy=>gU f x (sF y.2 x.r wp fr R)):=by
 obtain⟨en,t,e,A,I⟩:∃en:Nat,∃t:iu,y1 (s.v,s.D) (x.ps.map aj.D)=((en:Int),(t.v,t.D))/\t.Y=s.Y/\((en=0/\t.okl n wp fr V/\s.to t/\t.v=RH s.v x.ps/\t.x=s.x.jl 1 (x.ps.map aj.D)/\t.c=s.c/\Did s.D t.D (2*x.ps.length+1))\/(en=50/\Went s n wp fr (·=V) (2*x.ps.length+1) (s.c+3000) t.D)):=by
  rcases h.log u B j E J with⟨D',kj',e,F,G,H⟩|⟨v',D',e,g⟩
  · exact⟨0,{s with D:=D',K:=ez s.K s.Y.m kj',kj:=kj',v:=RH s.v x.ps,x:=s.x.jl 1 (x.ps.map aj.D),base:=s.base,c:=s.c},e,rfl,.inl ⟨rfl,F,G,rfl,rfl,rfl,H⟩⟩
  · exact⟨50,{s with v:=v',D:=D'},e,rfl,.inr ⟨rfl,g⟩⟩
 have L:=h.live.size;have q:s.Y.s*s.Y.c<=256*16:=RC h.Y.s.2 h.Y.c.2;have M:=h.Y.m;have i:∀p∈x.ps,p.fit:=λp o=>by
  have a:=(j p o).m;have b:=(j p o).r;have c:=(j p o).n;exact⟨by omega,by omega,by omega⟩
 refine ze Tryz.func165 Tryz.ntmps165 ?_;refine zq ?_;refine ay.aB sb_172 rfl ?_;intro C;refine w ?_;refine VC.bH (λw z=>z.bn (.tail _ (.tail _ (.head _)))) ?_;intro k;refine VC.bH (λw z=>bX.bH ((ae.re:ae W _ [bX x.ps]) w z)) ?_;intro l;have d:=λS (e:ae W S (bL (x.pa,x.pp) x.ps::bX x.ps:: []))=>KD (W:=W) (R:=S) (cap:=x.pp) wp s.Y.b s.v (h.SJ B) h.q.cap (by omega) ((bq.own (x:=(x.pa,x.pp)) k l (.head _) (.tail _ (.head _))).aR e) i (by omega);rw[e]at d;refine zx [15] 16 [0,1,2,3,4,5,6,7,8,9,10,11,12,13,14,15,16,17] (Row C 172 cD::Row f 256 x.cells::Row x.r 128 s.Y.cells:: []) ?_;refine w ?_;refine VD.re 13 (ip wp) rfl (by rw[h.w]) ?_;refine zr (s:=d (Row C 172 cD::Row f 256 x.cells::bL (x.pa,x.pp) x.ps::bX x.ps::Row x.r 128 s.Y.cells::Sl.Own 3 1 (.slice (ik s.Y.fa) s.Y.m s.Y.m) s.Y.m (j8 fr)::R) ae.re) (h:=?_);intro _ _;refine zr (s:=rjournalE_ok x.r s.Y en) (h:=?_);intro _ _;refine zS (trJ s.Y.m en) ?_;refine VE.results1 (.inl rfl) (en,t) rfl (aL.agg (vs:=trJ s.Y.m en) ah rfl rfl zm rfl rfl) ⟨A,I⟩ rfl ?_;dsimp only[sF];rw[A];exact ae.re
theorem rplaced0_ok(r:Nat)(Y:eA)(a:Y.wl=[]):az W Tryz.prog 171 [ip r] (Row r 128 Y.cells::R) (.agg cD.toArray) (Row r 128 Y.cells::R):=by
 refine ze Tryz.func171 Tryz.ntmps171 ?_;refine zq ?_;refine ay.aB sb_172 rfl ?_;intro b;refine w ?_;refine VC.cU rfl rfl (by rw[a];rfl) ?_;refine w ?_;refine VO.pure rfl rfl (af.build sb_172 rfl (show aC _ _ _=some cD by simp[aC,bR,Value.cells])) rfl ?_;refine zS cD ?_;exact VE.results1 (.inl rfl) () rfl (aL.agg (vs:=cD) ah rfl rfl zm rfl rfl) trivial rfl ae.re
theorem IC(a:Nat)(x:mX)(Y:eA)(b:Y.wl=[]):az W Tryz.prog 166 [ip a] (Row a 256 x.cells::Row x.r 128 Y.cells::R) (.agg cD.toArray) (Row a 256 x.cells::Row x.r 128 Y.cells::R):=by
 refine ze Tryz.func166 Tryz.ntmps166 ?_;refine zq ?_;refine ay.aB sb_172 rfl ?_;intro c;refine zr (s:=rplaced0_ok x.r Y b) (h:=?_);intro _ _;refine zS cD ?_;exact VE.results1 (.inl rfl) () rfl (aL.agg (vs:=cD) ah rfl rfl zm rfl rfl) trivial rfl ae.re
theorem EX(h:s.okl n wp fr V)(b:s.c<=1000000){D':aw}{v':bT}{en:Nat}(e:pB (s.v,s.D)=((en:Int),(v',D')))(R:List ab):az W Tryz.prog 250 [ip wp] (Sl.star [bz wp s.Y.b s.v,al s.Y.b s.D]::R) (i6 en) (Sl.star [bz wp s.Y.b v',al s.Y.b D']::R):=by
 have:=GO (W:=W) (R:=R) (D:=s.D) wp s.Y.b s.v (h.SJ b) h.q.cap (by omega);rw[e]at this;exact fX (λw a=>a.join) (QS this λw a=>a.nest (L:=[bz wp s.Y.b v',al s.Y.b D']))
theorem LA(a:Nat)(x:mX)(h:s.okl n wp fr V)(k:s.c<=1000000)(f:s.x.j9=some (x.ps.map aj.D))(j:s.Y.wl=[])(z:Fc s.Y V V' x.ps)(m:1<=x.ps.length):
  aq W Tryz.prog 167 [ip a] (gU a x (sF s x.r wp fr R)) (β:=Nat×iu) (λy=>(y.1=0/\y.2.okl n wp fr V'/\s.to y.2/\y.2.Y=s.Y.R2 x.pa x.pp x.ps/\y.2.v=su s.v x.ps/\y.2.c=s.c+1/\Did s.D y.2.D 1/\∀d c2,s.c+1<=c2->Bq0 d n y.2.K c2->Wreck s n wp fr (λU=>U=V\/U=V') c2 d)\/(y.1=50/\y.2.Y=s.Y/\Went s n wp fr (·=V) 1 (s.c+3000) y.2.D)) (VH s) (λy=>gU a x (sF y.2 x.r wp fr R)):=by
 obtain⟨en,t,e,u⟩:∃en:Nat,∃t:iu,pB (s.v,s.D)=((en:Int),(t.v,t.D))/\((en=0/\t.okl n wp fr V'/\s.to t/\t.Y=s.Y.R2 x.pa x.pp x.ps/\t.v=su s.v x.ps/\t.c=s.c+1/\Did s.D t.D 1/\∀d c2,s.c+1<=c2->Bq0 d n t.K c2->Wreck s n wp fr (λU=>U=V\/U=V') c2 d)\/(en=50/\t.Y=s.Y/\Went s n wp fr (·=V) 1 (s.c+3000) t.D)):=by
  rcases h.sealw k f j z m x.pa x.pp with⟨D',kj',e,o,p,q,r⟩|⟨v',D',e,g⟩
  · exact⟨0,_,e,.inl ⟨rfl,o,p,rfl,rfl,rfl,q,r⟩⟩
  · exact⟨50,{s with v:=v',D:=D'},e,.inr ⟨rfl,rfl,g⟩⟩
 refine ze Tryz.func167 Tryz.ntmps167 ?_;refine zq ?_;refine ay.aB sb_172 rfl ?_;intro c;refine w ?_;refine VC.aR (H':=Sl.star [bz wp s.Y.b s.v,al s.Y.b s.D]::Row c 172 cD::gU a x (de x.r s.Y fr R)) (ae.trans (ae.re (L:=bz wp s.Y.b s.v::al s.Y.b s.D::Row c 172 cD::gU a x (de x.r s.Y fr R))) (λw i=>i.nest (L:=[bz wp s.Y.b s.v,al s.Y.b s.D]))) ?_;refine VC.qO [11,12,13] 14 13 [0,1,2,3,4,5,6,7,8,9,10,11,12,13,14] (Row x.r 128 s.Y.cells::Row a 256 x.cells:: []) 3 (λb=>Row b 172 cD) (λb=>ip b) rfl (by kernel_rfl) (by kernel_rfl) ae.re ?_;(repeat (apply VX.take rfl rfl rfl rfl;exact zp;rfl;rfl;rfl));refine VX.re 14 (ip wp) rfl (by rw[h.w]) rfl rfl ?_;refine VX.uk (K:=Sl.star [bz wp s.Y.b s.v,al s.Y.b s.D]) (S:=λ_:Unit=>[Sl.star [bz wp s.Y.b t.v,al s.Y.b t.D]]) (H':=Row c 172 cD::gU a x (de x.r s.Y fr R)) rfl rfl rfl rfl rfl rfl (λ_ _=>by simp) (EX h k e) (by(repeat first|exact .refl|(apply aP.cons;focus repeat first|exact .head|apply nW.tail)|exact .nil|apply aP.drop)) rfl (dG.alloc sb_172 rfl) ae.re (λ_ _=>ae.re) rfl rfl rfl ?_;intro _ _;refine VX.uk (K:=Row x.r 128 s.Y.cells) (S:=λ_:Unit=>[Row x.r 128 s.Y.cells]) (H':=Sl.star [bz wp s.Y.b t.v,al s.Y.b t.D]::Row c 172 cD::gU a x (Sl.Own 3 1 (.slice (ik s.Y.fa) s.Y.m s.Y.m) s.Y.m (j8 fr)::R)) rfl rfl rfl rfl rfl rfl (λ_ _=>by simp) (λR=>rjournalE_ok x.r s.Y en) (by(repeat first|exact .refl|(apply aP.cons;focus repeat first|exact .head|apply nW.tail)|exact .nil|apply aP.drop)) rfl (dG.alloc sb_172 rfl) ae.re (λ_ _=>ae.re) rfl rfl rfl ?_;intro _ _;(repeat (apply VX.take rfl rfl rfl rfl;exact zp;rfl;rfl;rfl));refine VX.float rfl rfl (dG.alloc sb_172 rfl) ae.re ?_;intro l;refine zS (trJ s.Y.m en) ?_;refine VC.aR (H':=Row l 172 (trJ s.Y.m en)::Row c 172 cD::gU a x (de x.r s.Y fr (A0 wp s.Y.b t.v t.D R))) (ae.trans (ae.re (L:=Sl.star [bz wp s.Y.b t.v,al s.Y.b t.D]::Row l 172 (trJ s.Y.m en)::Row c 172 cD::gU a x (de x.r s.Y fr R))) (ae.trans (λw i=>i.join) ae.re)) ?_;rcases u with⟨rfl,g1,g2,g3,g4⟩|⟨rfl,g1,g2⟩
 ·
  refine w ?_;refine zx [] 12 [0,1,2,3,4,5,6,7,8,9,10,11,12,13,14,15,16,17] _ ?_;refine zS (trJ s.Y.m 0) ?_;refine VE.results1 (.inl rfl) (0,t) rfl (aL.agg (vs:=trJ s.Y.m 0) ah rfl rfl zm rfl rfl) (.inl ⟨rfl,g1,g2,g3,g4⟩) rfl ?_;dsimp only[sF];rw[g3];exact ae.re
 ·
  refine zS (trJ s.Y.m 50) ?_;refine VE.results1 (.inl rfl) (50,t) rfl (aL.agg (vs:=trJ s.Y.m 50) ah rfl rfl zm rfl rfl) (.inr ⟨rfl,g1,g2⟩) rfl ?_;dsimp only[sF];rw[g1];exact ae.re
def EndOk(s:iu)(n wp:Nat)(fr:List Int)(V:Nat->Nat->List UInt8)(y:Nat×Nat×iu):Prop:=
  (y.1=0/\y.2.1=0/\y.2.2.okl n wp fr V/\s.to y.2.2/\y.2.2.Y.wl=[]/\y.2.2.v=s.v.rr/\y.2.2.c<=s.c+s.Y.wl.length/\∃N,Did s.D y.2.2.D N/\((s.Y.wl.map aj.place).Nodup->(∀k row,k<s.Y.m->¬gB fr k row)->N=(if s.v.sure then 0 else 1)+s.Y.wl.length))\/
  (y.1=50/\y.2.2.Y=s.Y/\Bq1 s.D 1 y.2.2.D n s.K s.c)\/
  (y.1=50/\y.2.2.Y=s.Y/\(((if s.v.sure then 0 else 1:Nat):Int)<=s.D.c8)/\Went s n wp fr (·=V) ((if s.v.sure then 0 else 1)+s.Y.wl.length) (s.c+3000) y.2.2.D)
theorem OD(d:Nat)(x:mX)(h:s.okl n wp fr V)(z:s.c<=1000000)(t:s.Y.lazy=false)(r:bq W (bL (x.pa,x.pp) x.ps::bX x.ps::R) s.Y.wo s.Y.wl):
  aq W Tryz.prog 168 [ip d] (gU d x (sF s x.r wp fr R)) (β:=Nat×Nat×iu) (EndOk s n wp fr V) (λy=>.agg (trT y.2.1 y.1).toArray) (λy=>gU d x (sF y.2.2 x.r wp fr R)):=by
 refine ze Tryz.func168 Tryz.ntmps168 ?_;refine zq ?_;refine ay.aB sb_172 rfl ?_;intro u;refine w ?_;refine VC.aK rfl rfl (t) ?_;refine zr (s:=rsettled_ok (R:=Row u 172 cD::Row d 256 x.cells::bL (x.pa,x.pp) x.ps::bX x.ps::R) x.r s.Y h.Y h.w fr h.uD (r.aR (ae.drop (ae.drop ae.refl))) h.q (by assumption) h.k h.slot h.live) (h:=?_);rintro⟨D',k,v',en,c⟩ p;dsimp only;refine zS (trT c en) ?_;have j:=h.mx;rcases p with⟨a,b,i,e,kj',g1,g2,g3,g4,g5⟩|⟨a,b,g⟩|⟨a,b,kj',g1,g2,g3,g4,g5,f,g6,g7⟩
 ·
  dsimp only at a b i;subst a b i;obtain⟨m,o⟩:=h.settled e g1 g2 g3 g4;exact VE.results1 (.inl rfl) (0,0,_) rfl (aL.agg (vs:=trT 0 0) ah rfl rfl zm rfl rfl) (.inl ⟨rfl,rfl,m,o,rfl,rfl,eI _,g5⟩) rfl ae.re
 ·
  dsimp only at a b;subst a b;exact VE.results1 (.inl rfl) (50,c,{s with D:=D',v:=v'}) rfl (aL.agg (vs:=trT c 50) ah rfl rfl zm rfl rfl) (.inr (.inl ⟨rfl,rfl,g⟩)) rfl ae.re
 ·
  dsimp only at a b;subst a b;have l:=h.jr (D':=D') (v':=s.v.rr) rfl g2 h.base h.ep h.nx h.stay h.inr;have t1:=iu.to.jr (s:=s) (D':=D') (v':=s.v.rr) (x':=s.x.jl 3 []) (b':=s.base) h.k rfl (eI s.c) g3;have q:Bq0 D' n k (s.c+3000):=(g4.mono (eI _) (by omega)).toBq0;refine VE.results1 (.inl rfl) (50,c,{s with D:=D',v:=s.v.rr}) rfl (aL.agg (vs:=trT c 50) ah rfl rfl zm rfl rfl) (.inr (.inr ⟨rfl,rfl,g5,g4.lo,g4.lt,?_⟩)) rfl ae.re;exact(l.UM rfl g6 g7 q g1 (Nat.le_add_right _ _)).to t1 λ_ h=>h
theorem Lz(b:Nat)(x:mX)(h:s.okl n wp fr V)(k:s.v.sure=true)(c:s.c<=1000000)(B:bq W R s.Y.wo s.Y.wl)(u:x.l.length<=256)(v:iT W R x.po x.l)(r:∀p∈x.l,p.dV<s.Y.s*s.Y.c* (s.Y.m-1))(d:2*dF s.Y.m s.Y.c x.l+1<=s.v.size)(f:s.D.c8=-1\/2*dF s.Y.m s.Y.c x.l+1<=s.v.size-s.v.used):
  aq W Tryz.prog 163 [ip b] (gU b x (sF s x.r wp fr R)) (β:=iu) (λt=>(t.okl n wp fr V/\t.v.sure=true/\(¬2*dF s.Y.m s.Y.c x.l+1<=s.v.size-s.v.used->t.v.used=0)/\(s.D.c8=-1->t.D.c8=-1))/\s.to t/\2*dF s.Y.m s.Y.c x.l+1<=t.v.size-t.v.used/\(2*dF s.Y.m s.Y.c x.l+1<=s.v.size-s.v.used->t=s)/\((t.Y.wo=none/\t.Y.wl=[])\/t.Y=s.Y)/\t.c<=s.c+s.Y.wl.length)
   (λ_=>.agg cD.toArray) (λt=>gU b x (sF t x.r wp fr R)):=by
 have z:=h.live.size;have A:=h.live.Nj.us;obtain⟨M,m⟩:∃M,dF s.Y.m s.Y.c x.l=M:=⟨_,rfl⟩;rw[m]at d f⊢;have i:=h.uD;refine ze Tryz.func163 Tryz.ntmps163 ?_;refine zq ?_;refine ay.aB sb_172 rfl ?_;intro g;refine w ?_;refine VC.aK rfl rfl (by rw[h.w];rfl) ?_;refine w ?_;refine zx [11] 16 [0,1,2,3,4,5,6,7,8,9,10,11,12,13,14,15,16] _ ?_;refine zt (s:=HO h.Y.m h.Y.c h.Y.s u (v.aR (ae.drop (ae.drop (ae.drop (ae.drop (ae.drop (ae.drop (ae.drop (ae.drop ae.refl))))))))) r) (h:=?_);intro y C;rw[C.PH,m];refine w ?_;refine VO.re 50 (ip wp) rfl (by rw[h.w]) ?_;refine zr (s:=yp (R:=Row g 172 cD::gU b x (de x.r s.Y fr (al s.Y.b s.D::R))) wp s.Y.b s.v) (h:=?_);intro _ _;refine w ?_;refine VC.aK rfl rfl (gx (by omega)) ?_;refine w ?_;refine VC.quiet rfl (by kernel_rfl) (by kernel_rfl) ?_;refine w ?_;refine VQ.re 62 (ip wp) rfl (by rw[h.w]) ?_;refine VQ.call rfl rfl rfl rfl (λ_ _=>by simp) (yp (R:=Row g 172 cD::gU b x (de x.r s.Y fr (al s.Y.b s.D::R))) wp s.Y.b s.v) ae.re ae.re rfl ?_;refine w ?_;refine VQ.re 70 (ip wp) rfl (by rw[h.w]) ?_;refine VQ.call rfl rfl rfl rfl (λ_ _=>by simp) (yq (R:=Row g 172 cD::gU b x (de x.r s.Y fr (al s.Y.b s.D::R))) wp s.Y.b s.v) ae.re ae.re rfl ?_;refine w ?_;refine zk ?_ ?_<;>intro c
 ·
  have e:¬2*M+1<=s.v.size-s.v.used:=by have:=cI c;omega
  clear c;replace h:=h.ok (f.resolve_right e);refine zr (s:=tH (R:=Row g 172 cD::Row b 256 x.cells::bL (x.pa,x.pp) x.ps::bX x.ps::R) x.r s.Y h.Y h.w fr i (B.aR (ae.drop (ae.drop (ae.drop (ae.drop ae.refl))))) h.q (by assumption) h.k h.slot h.live h.base (h.lO (by assumption))) (h:=?_);rintro⟨D',D⟩ ⟨j,kj',g1,g2,g3⟩;obtain⟨l,o⟩:=h.pO (by assumption) j g1 g2 g3;refine zS cD ?_;exact VE.results1 (.inl rfl) _ rfl (aL.agg (vs:=cD) ah rfl rfl zm rfl rfl) ⟨⟨l.l,rfl,λ_=>rfl,λ_=>l.q.c8⟩,o,by show _<=s.v.size-0;omega,λq=>lcs q e,.inl ⟨rfl,rfl⟩,eI _⟩ rfl ae.re
 ·
  have a:2*M+1<=s.v.size-s.v.used:=by have:=dx c;omega
  clear c;refine w ?_;apply VO.pure rfl rfl;apply af.build sb_172 (pv:=[]) rfl;rfl;rfl;refine zS cD ?_;exact VE.results1 (.inl rfl) s rfl (aL.agg (vs:=cD) ah rfl rfl zm rfl rfl) ⟨⟨h,k,λq=>lcs a q,λq=>q⟩,.refl s,a,λ_=>rfl,.inr rfl,Nat.le_add_right _ _⟩ rfl ae.re
end
end Go.Proofs.YtldolcbbmnmjoaaGreat
namespace Go.Proofs.YtldolcbbmnmjoaaGreat
open Go.RowKit Go.Sl
attribute [local irreducible] Sl.Own
structure Qp where
  t:iu
  ps:List aj
  x:Option Addr×Nat
  e:Nat
  sl:Nat
structure WrC(s:iu)(n wp:Nat)(fr:List Int)(V:Nat->Nat->List UInt8)(M k b:Nat)(t:iu):Prop where
  ok:t.okl n wp fr V
  to:s.to t
  c:t.c<=s.c+b
  calm:s.D.c8=-1->t.D.c8=-1
  did:M<=s.v.size-s.v.used->Did s.D t.D k
def VG(s:iu)(n wp:Nat)(fr:List Int)(V V':Nat->Nat->List UInt8)(S M:Nat)(D':aw):Prop:=
  Went s n wp fr (·=V) (S+1) (s.c+9000) D'\/((S:Int)+1<=s.D.c8/\Went s n wp fr (λU=>U=V\/U=V') (S+2) (s.c+9000) D')\/((S:Int)+2<=s.D.c8/\Went s n wp fr (·=V') (S+2+M) (s.c+9000) D')
def S9(s:iu)(n wp:Nat)(fr:List Int)(V V':Nat->Nat->List UInt8)(m c:Nat)(l:List cQ)(y:Qp):Prop:=∃q:CJ,fJ m c l q/\
  ((y.e=0/\y.sl=0/\y.t.okl n wp fr V'/\s.to y.t/\(y.t.Y.wo=none/\y.t.Y.wl=[])/\y.t.v.sure=true/\y.t.c<=s.c+4000/\y.t.v.used=(if 2*kz q.out+1<=s.v.size-s.v.used then s.v.used else 0)+(2*kz q.out+1)/\(s.D.c8=-1->y.t.D.c8=-1)/\(2*kz q.out+1<=s.v.size-s.v.used->Did s.D y.t.D (rdS m c q.out+3*kz q.out+3)))\/
  (y.e=50/\y.t.Y.b=s.Y.b/\2*kz q.out+1<=s.v.size-s.v.used/\VG s n wp fr V V' (rdS m c q.out+2*kz q.out+1) (kz q.out) y.t.D))
section
variable{W:World}{R:List ab}{s:iu}{n wp m c:Nat}{fr:List Int}{V V':Nat->Nat->List UInt8}{l:List cQ}{y:CJ}
theorem bq.Tr:bq W R none []:=⟨⟨rfl,λu e=>(by cases e),λ_=>rfl,λw f a d=>(by cases d)⟩,λp b=>(by cases b),λp b=>(by cases b)⟩
theorem iu.okl.Un(h:s.okl n wp fr V):({s with Y:={s.Y with sl:=false}}:iu).okl n wp fr V:=⟨⟨⟨h.Y.m,h.Y.c,h.Y.s⟩,h.w,⟨h.F.len,h.F.one,h.F.mu,h.F.par,h.F.wait,h.F.is,h.F.y0,h.F.y4⟩,h.nil,h.k,h.slot,h.live,h.base,h.ep,h.nx,h.mx,λp a=>⟨⟨(h.KU p a).1.m,(h.KU p a).1.r,(h.KU p a).1.n⟩,(h.KU p a).2⟩,h.stay,h.inr⟩,h.q⟩
theorem WrC.went{M k b N c' c2:Nat}{D':aw}{P:(Nat->Nat->List UInt8)->Prop}{t:iu}(h:WrC s n wp fr V M k b t)(j:-1<=s.D.c8)(d:s.D.c8=-1\/M<=s.v.size-s.v.used)(w:Went t n wp fr P N c' D')(i:c'<=c2):M<=s.v.size-s.v.used/\(k:Int)<=s.D.c8/\Went s n wp fr P (k+N) c2 D':=by
 have f:s.D.c8≠-1:=λq=>by have:=h.calm q;have:=w.lo;omega
 have e:=d.resolve_left f;obtain⟨a,b⟩:=(h.did e).tr (by omega);have:=w.lt;have:=w.lo;exact⟨e,by omega,by omega,by omega,(w.is.mono i).to h.to λ_ g=>g⟩
theorem Went.at{N c' c2:Nat}{D':aw}{P:(Nat->Nat->List UInt8)->Prop}{t:iu}(w:Went t n wp fr P N c' D')(a:s.to t)(b:t.D=s.D)(d:c'<=c2):Went s n wp fr P N c2 D':=⟨b▸w.lo,b▸w.lt,(w.is.mono d).to a λ_ g=>g⟩
theorem S9.at{y:Qp}{s0:iu}(h:S9 s0 n wp fr V V' m c l y)(a:s.to s0)(b:s0.D=s.D)(z:s0.v=s.v)(v:s0.c=s.c):S9 s n wp fr V V' m c l y:=by
 obtain⟨q,x,h⟩:=h;refine⟨q,x,?_⟩;rw[z,v]at h;rcases h with⟨d,f,i,k,o,p,r,t,u,e⟩|⟨d,j,f,i⟩
 · exact .inl ⟨d,f,i,a.trans k,o,p,r,t,b▸u,b▸e⟩
 ·
  refine .inr ⟨d,j.trans a.m.1,f,?_⟩;rcases i with g|⟨g1,g⟩|⟨g1,g⟩
  · exact .inl (g.at a b (by omega))
  · exact .inr (.inl ⟨b▸g1,g.at a b (by omega)⟩)
  · exact .inr (.inr ⟨b▸g1,g.at a b (by omega)⟩)
theorem MZ{w:World}:∀{l:List cu},Sl.Holds W (cG cu.own l::R) w->∀q∈l,q.ao=none->q.aA.length=0:=λ{l} d q b=>by
 obtain⟨i,a,rfl⟩:=List.mem_iff_getElem.1 b;exact(j4 (res:=cu.own) a d).bn (.head _)
theorem fJ.rd(h:fJ m c l y)(f:∀q∈y.out,q.ao=none->q.aA.length=0)(b:∀e∈y.G,e.ok)(m1:cG cu.own y.out∈R)(m2:cP y.G∈R):∀q∈y.out,bq W R q.ao q.aA:=λq j=>by
 obtain⟨t,v,o,r⟩:=h.aA j;have d:∀p∈q.aA,p.d∈y.G:=λp a=>by
  obtain⟨i,u,rfl⟩:=List.mem_iff_getElem.1 a;obtain⟨_,_,_,g,_⟩:=(h.row v o r).2.1 i u;exact g
 exact⟨aV.cG m1 j λR k=>aV.own (xG _) k (mJ _) (f q j),λp a=>aV.cG m2 (d p a) λR k=>aU.gz (b _ (d p a)) k,λp a=>b _ (d p a)⟩
theorem fJ.RU(h:fJ m c l y)(a:l≠[]):0<y.out.length:=by
  obtain⟨p,b⟩:=List.exists_mem_of_ne_nil l a;cases e:iG m c l (cJ m c p.dV).row (cJ m c p.dV).av with
  |some d=>
    obtain⟨t,g,_⟩:=h.has e;obtain⟨q,f,_⟩:=h.MW g;exact List.length_pos_of_mem f
  |none=>
    unfold iG at e;rw[Option.map_eq_none_iff,Tm]at e;exact lcs (e p (HH.2 b)) (by simp)
abbrev usedN(s:iu)(M:Nat):Nat:=if M<=s.v.size-s.v.used then s.v.used else 0
def UA(s:iu)(n wp:Nat)(fr:List Int)(V V':Nat->Nat->List UInt8)(out:List cu)(M R:Nat):Nat->iu->List aj->Option Addr×Nat->Prop
  |0,t,ps,_=>t=s/\ps=[]
  |1,t,ps,_=>(WrC s n wp fr V M 0 0 t/\t.v.sure=true/\M<=t.v.size-t.v.used/\(t.Y.wo=none/\t.Y.wl=[])/\t.v.used=usedN s M)/\ps=[]
  |2,t,ps,_=>(WrC s n wp fr V M R 0 t/\t.v.sure=true/\M<=t.v.size-t.v.used/\(t.Y.wo=none/\t.Y.wl=[])/\t.v.used=usedN s M)/\iV t.Y V' out ps
  |3,t,ps,_=>(WrC s n wp fr V M (R+M) 0 t/\t.x.j9=some (ps.map aj.D)/\(t.Y.wo=none/\t.Y.wl=[])/\t.v.used=usedN s M)/\iV t.Y V' out ps
  |4,t,ps,_=>(WrC s n wp fr V M (R+M) 0 t/\t.x.j9=some (ps.map aj.D)/\(t.Y.wo=none/\t.Y.wl=[])/\t.v.used=usedN s M)/\iV t.Y V' out ps
  |5,t,ps,xp=>(WrC s n wp fr V' M (R+M+1) 1 t/\(t.Y.wo=xp.1/\t.Y.wl=ps)/\t.v.used=usedN s M+M/\t.v.sure=false/\∀a c2,t.c<=c2->Bq0 a n t.K c2->Wreck s n wp fr (λU=>U=V\/U=V') c2 a)/\iV t.Y V' out ps
  |_,t,ps,xp=>t.okl n wp fr V'/\s.to t/\t.Y.wl=[]/\t.v.sure=true/\t.c<=s.c+4000/\t.v.used=usedN s M+M/\(s.D.c8=-1->t.D.c8=-1)/\(M<=s.v.size-s.v.used->Did s.D t.D (R+M+1+(1+ps.length))/\ps.length=kz out)
theorem iV.re{Y a:eA}{out:List cu}{ps:List aj}(h:iV Y V' out ps)(e:a.m=Y.m/\a.c=Y.c/\a.s=Y.s):iV a V' out ps:=by
 obtain⟨b,m,c,s,w,x,v,E,D,wl,B⟩:=Y;obtain⟨b',z,c',A,C,k,j,u,q,t,o⟩:=a;obtain⟨f,g,i⟩:=e;dsimp only at f g i;subst f g i;exact⟨λp d=>⟨⟨(h.of p d).1.m,(h.of p d).1.r,(h.of p d).1.n⟩,(h.of p d).2⟩,h.n,h.all,h.nd,h.src⟩
abbrev N8(y:CJ)(R:List ab):List ab:=Sl.Own 126 1 (.slice y.x.1 y.out.length y.x.2) y.out.length (y.out.map cu.ei)::cG cu.own y.out::cP y.G::R
abbrev CU(g:FuncId)(a:Nat):Value:= .func (.func g) #[ip a] #[]
abbrev uX(a:Nat):List Value:=[CU 163 a,CU 164 a,CU 165 a,CU 166 a,CU 167 a,CU 168 a]
theorem Kb{B:Nat->List UInt8}{ao:Option Addr}{cap:Nat}(r:Nat)(h:s.okl n wp fr (fy s.Y.m s.Y.c B))(ct:(s.Y.wo=none/\s.Y.wl=[])/\s.v.sure=true/\s.Y.lazy=false)(bE:∀k row,k<s.Y.m->¬gB fr k row)(hl:l.length<=256)(dc:l≠[])(hp:iT W R ao l)(hb:∀p∈l,p.dV<s.Y.s*s.Y.c* (s.Y.m-1))(hB:∀b,b<s.Y.s*s.Y.c* (s.Y.m-1)->(B b).length=128)(G:2*dF s.Y.m s.Y.c l+1<=s.v.size)(A:s.D.c8=-1\/2*dF s.Y.m s.Y.c l+1<=s.v.size-s.v.used)(hc:s.c<=900000):
  aq W Tryz.prog 102 [ip r,.slice ao l.length cap] (sF s r wp fr R) (β:=Qp) (S9 s n wp fr (fy s.Y.m s.Y.c B) (fy s.Y.m s.Y.c (hU l B)) s.Y.m s.Y.c l) (λy=>.agg (trT y.sl y.e).toArray) (λy=>sF y.t r wp fr (bL y.x y.ps::bX y.ps::R)):=by
 obtain⟨⟨ed,ec⟩,bw,dV⟩:=ct;obtain⟨s0,U⟩:∃s0:iu,s0={s with Y:={s.Y with sl:=false}}:=⟨_,rfl⟩;have P:=h.Un;rw[<-U]at P;have bx:s.to s0:=by rw[U];exact⟨rfl,rfl,λi kd e=>⟨kd,e,λ_=>rfl,λ_ h=>h⟩,eI _⟩
 have em:s0.Y.m=s.Y.m/\s0.Y.c=s.Y.c/\s0.Y.s=s.Y.s/\s0.Y.wo=s.Y.wo/\s0.Y.wl=s.Y.wl/\s0.v=s.v/\s0.c=s.c/\s0.Y.lazy=s.Y.lazy/\s0.D=s.D:=by rw[U];exact⟨rfl,rfl,rfl,rfl,rfl,rfl,rfl,rfl,rfl⟩
 obtain⟨d,f,H,an,Q,K,bf,bh,au⟩:=em;rw[ed]at an;rw[ec]at Q;rw[dV]at bh;rw[<-K]at bw;rw[<-d,<-f,<-K,<-au]at A;refine ze Tryz.func102 Tryz.ntmps102 ?_;repeat (refine zj λ_=>?_;refine w ?_)
 refine zq ?_;refine ay.aB sb_172 rfl ?_;intro I;refine w ?_;repeat (refine zj λ_=>?_;refine w ?_)
 refine VO.aR (H':=Row I 172 cD::sF s0 r wp fr R) (by rw[U];exact ae.re) ?_;refine VO.re 18 (.agg (cv s0.Y.m s0.Y.c s0.Y.s).toArray) rfl (by rw[d,f,H];rfl) ?_;refine zr (s:=EI (R:=Row I 172 cD::sF s0 r wp fr R) P.Y.m P.Y.c P.Y.s hl (hp.aR (ae.drop (ae.drop (ae.drop (ae.drop (ae.drop ae.refl)))))) (by rw[d,f,H];exact hb)) (h:=?_);intro y hy;have aa:=hy.RU dc;refine w ?_;repeat (refine zj λ_=>?_;refine w ?_)
 refine VC.aK rfl rfl (by simp;intro e;rw[e]at aa;simp at aa) ?_;refine w ?_;repeat (refine zj λ_=>?_;refine w ?_)
 refine VO.pure rfl rfl (af.build sb_256 rfl (show aC _ _ _=some (mX.cells ⟨r,ao,cap,l,y.x.1,y.x.2,y.out,none,0,[]⟩)by simp[aC,bR,Value.cells])) rfl ?_;refine w ?_;repeat (refine zj λ_=>?_;refine w ?_)
 rename_i o;refine VO.pure rfl rfl (af.cm rfl) rfl ?_;refine w ?_;repeat (refine zj λ_=>?_;refine w ?_)
 refine VO.pure rfl rfl (af.cm rfl) rfl ?_;refine w ?_;repeat (refine zj λ_=>?_;refine w ?_)
 refine VO.pure rfl rfl (af.cm rfl) rfl ?_;refine w ?_;repeat (refine zj λ_=>?_;refine w ?_)
 refine VO.pure rfl rfl (af.cm rfl) rfl ?_;refine w ?_;repeat (refine zj λ_=>?_;refine w ?_)
 refine VO.pure rfl rfl (af.cm rfl) rfl ?_;refine w ?_;repeat (refine zj λ_=>?_;refine w ?_)
 refine VO.pure rfl rfl (af.cm rfl) rfl ?_;refine w ?_;repeat (refine zj λ_=>?_;refine w ?_)
 (refine zq ?_;refine ay.bP TI rfl rfl (by first|(simp;done)|simp[Value.oneCell']) (by decide) rfl ?_;intro nb);refine w ?_;repeat (refine zj λ_=>?_;refine w ?_)
 have bp:∀u∈uX o,u.oneCell'=true:=by simp[Value.oneCell']
 have hM:kz y.out=dF s0.Y.m s0.Y.c l:=hy.PH;rw[<-d,<-f,<-K]at G;have ep:=P.live.size;refine VC.bH (λw O=>MZ ((ae.re:ae W _ [cG cu.own y.out]) w O)) ?_;intro cw;refine VC.bH (λw O=>cP.bH ((ae.re:ae W _ [cP y.G]) w O)) ?_;intro cy;refine VC.bH (λw O=>O.bn (e:=126) (sz:=1) (ao:=y.x.1) (k:=y.out.length) (cap:=y.x.2) (xs:=y.out.map cu.ei) zm) ?_;intro cS;have bs:∀u∈y.out.map cu.ei,u.oneCell'=true:=λu hu=>by obtain⟨z,_,rfl⟩:=fG.1 hu;rfl
 obtain⟨V',bm⟩:∃V',V'=fy s.Y.m s.Y.c (hU l B):=⟨_,rfl⟩;obtain⟨V,hV⟩:∃V,V=fy s.Y.m s.Y.c B:=⟨_,rfl⟩;have bk:∀Y:eA,Y.ok->(Y.m=s0.Y.m/\Y.c=s0.Y.c/\Y.s=s0.Y.s)->Ol Y V V' y.out:=λY J e=>by
  rw[hV,bm,<-d,<-f];exact hy.CU J e (by rw[d,f,H];exact hb) hp.n128 (by rw[d,f,H];exact hB)
 rw[<-bm];rw[<-hV]at P⊢;have bb:kz y.out<=1023:=by omega
 rw[<-hM]at A G;obtain⟨M,v⟩:∃M,2*kz y.out+1=M:=⟨_,rfl⟩;obtain⟨Rd,av⟩:∃Rd,rdS s0.Y.m s0.Y.c y.out=Rd:=⟨_,rfl⟩;rw[v]at A G;have X:=P.q.c8.1;have bG:∀t:iu,(t.Y.wo=none/\t.Y.wl=[])->∀S,bq W S t.Y.wo t.Y.wl:=λt q S=>by rw[q.1,q.2];exact bq.Tr
 have E:∀(t:iu)(ps:List aj)(xp:Option Addr×Nat)(sl:Nat),t.Y.b=s0.Y.b->M<=s0.v.size-s0.v.used->VG s0 n wp fr V V' (Rd+M) (kz y.out) t.D->S9 s n wp fr V V' s.Y.m s.Y.c l ⟨t,ps,xp,50,sl⟩:=λt ps xp sl ck ch hD=>by
  refine S9.at (s0:=s0) ⟨y,by rw[<-d,<-f];exact hy,.inr ⟨rfl,ck,by rw[v];exact ch,?_⟩⟩ bx au K bf;rw[<-d,<-f,av,ux,v];exact hD
 refine VC.loop (α:=Nat×iu×List aj×(Option Addr×Nat)) (λz=>z.1<=6/\UA s0 n wp fr V V' y.out M Rd z.1 z.2.1 z.2.2.1 z.2.2.2) (λz=>Row nb 175 (uX o)::Row I 172 cD::gU o ⟨r,ao,cap,l,y.x.1,y.x.2,y.out,z.2.2.2.1,z.2.2.2.2,z.2.2.1⟩ (sF z.2.1 r wp fr (N8 y R)))
  (λz=>[(4,ip I),(49,.slice (ik nb) 6 6),(50,ii 6),(51,ii z.1)]) (λz=>6-z.1) rfl (0,s0,[],(none,0)) ⟨c7 _,rfl,rfl⟩ (ae.trans (ae.re (L:=Row nb 175 (uX o)::Row I 172 cD::Row o 256 (mX.cells ⟨r,ao,cap,l,y.x.1,y.x.2,y.out,none,0,[]⟩)::sF s0 r wp fr (N8 y R))) (λw O=>(ae.re:ae W (bL (none,0) []::bX []::Row nb 175 (uX o)::Row I 172 cD::Row o 256 (mX.cells ⟨r,ao,cap,l,y.x.1,y.x.2,y.out,none,0,[]⟩)::sF s0 r wp fr (N8 y R)) _) w ((di (res:=aj.res) O).aZ 207 3))) ⟨rfl,rfl,rfl,rfl,trivial⟩ ?_
 rintro⟨i,t,ps,xp⟩ ⟨hi,hA⟩;dsimp only at hi hA⊢;have hr1:aV W (Row nb 175 (uX o)::Row I 172 cD::gU o ⟨r,ao,cap,l,y.x.1,y.x.2,y.out,xp.1,xp.2,ps⟩ (sF t r wp fr (N8 y R))) 1 (ik nb) 6 (uX o):=aV.row bp (.head _) rfl;have ee:∀S,Sl.Own 126 1 (.slice y.x.1 y.out.length y.x.2) y.out.length (y.out.map cu.ei)∈S->aV W S 1 y.x.1 y.out.length (y.out.map cu.ei):=λS m=>aV.own bs m (by simp) cS;have ea:∀S,cG cu.own y.out∈S->cP y.G∈S->∀q∈y.out,bq W S q.ao q.aA:=λS m1 m2=>hy.rd cw cy m1 m2;rcases(show i=0\/i=1\/i=2\/i=3\/i=4\/i=5\/i=6 by omega)with rfl|rfl|rfl|rfl|rfl|rfl|rfl
 ·
  obtain⟨rfl,rfl⟩:=hA;refine w ?_;repeat (refine zj λ_=>?_;refine w ?_)
  refine zq ?_;refine ay.gS rfl rfl (λ_ _=>by simp) (Lz (R:=N8 y (Row nb 175 (uX o)::Row I 172 cD::R)) o ⟨r,ao,cap,l,y.x.1,y.x.2,y.out,xp.1,xp.2,[]⟩ P bw (by omega) (bG t ⟨an,Q⟩ _) hl (hp.aR (ae.drop (ae.drop (ae.drop (ae.drop (ae.drop ae.refl)))))) (by rw[d,f,H];exact hb) (by dsimp only;rw[<-hM,v];exact G) (by dsimp only;rw[<-hM,v];exact A)) ae.re rfl ?_;rintro t' ⟨⟨a,cb,ad,ca⟩,a2,a3,a4,a5,x⟩;dsimp only at ad a3 a4;rw[<-hM,v]at ad a3 a4;rw[Q]at x;refine w ?_;repeat (refine zj λ_=>?_;refine w ?_)
  refine zq ?_;refine ay.aB sb_172 rfl ?_;intro n10;refine w ?_;repeat (refine zj λ_=>?_;refine w ?_)
  refine zS cD ?_;repeat (refine zj λ_=>?_;refine w ?_)
  refine VE.round (1,t',[],xp) ⟨by dsimp only;omega,⟨⟨a,a2,RB x (by simp),ca,λq=>by rw[a4 q];exact .refl _⟩,cb,a3,?_,?_⟩,rfl⟩ (by dsimp only;omega) ⟨rfl,rfl,rfl,b7 rfl rfl,trivial⟩ ae.re
  ·
   rcases a5 with a5|a5
   · exact a5
   · rw[a5];exact⟨an,Q⟩
  ·
   unfold usedN;split
   · rename_i g;rw[a4 g]
   · rename_i g;exact ad g
 ·
  obtain⟨⟨a,a2,a3,a4,a5⟩,rfl⟩:=hA;have b:=a.to.m;refine w ?_;repeat (refine zj λ_=>?_;refine w ?_)
  refine zq ?_;refine ay.gS rfl rfl (λ_ _=>by simp) (bworkd_ok (R:=bz wp t.Y.b t.v::N8 y (Row nb 175 (uX o)::Row I 172 cD::R)) o ⟨r,ao,cap,l,y.x.1,y.x.2,y.out,xp.1,xp.2,[]⟩ rfl t.Y a.ok.Y fr a.ok.F (by rw[b.2.1,d];exact bE) a4.2 (bG t a4 _) a.ok.q (bk t.Y a.ok.Y ⟨b.2.1,b.2.2.1,b.2.2.2.1⟩) (ee _ zm) (ea _ zm zm) bb (hy.rows_nd (s:=s0.Y.s) P.Y.m.1 P.Y.c.1 (by rw[d,f,H];exact hb) hp.n128)) ae.re rfl ?_;rintro⟨D2,l2,x2,en,sl⟩ ⟨F,hW⟩;dsimp only at F hW⊢;rw[b.2.1,b.2.2.1,av]at F;refine w ?_;repeat (refine zj λ_=>?_;refine w ?_)
  refine zq ?_;refine ay.aB sb_172 rfl ?_;intro n10;refine w ?_;repeat (refine zj λ_=>?_;refine w ?_)
  refine zS (trT sl en) ?_;repeat (refine zj λ_=>?_;refine w ?_)
  rcases F with⟨rfl,j,c2⟩|⟨rfl,j⟩
  ·
   refine w ?_;repeat (refine zj λ_=>?_;refine w ?_)
   refine VE.round (2,{t with D:=D2},l2,x2) ⟨by dsimp only;omega,⟨⟨⟨⟨a.ok.Y,a.ok.w,a.ok.F,a.ok.nil,a.ok.k,a.ok.slot,a.ok.live,a.ok.base,a.ok.ep,a.ok.nx,a.ok.mx,a.ok.KU,a.ok.stay,a.ok.inr⟩,j⟩,⟨a.to.fix,a.to.size,a.to.z,a.to.c⟩,a.c,λq=>c2.calm (a.calm q),λq=>by have:=(a.did q).trans c2;rwa [PA]at this⟩,a2,a3,a4,a5⟩,hW rfl⟩ (by dsimp only;omega) ⟨rfl,rfl,rfl,b7 rfl rfl,trivial⟩ ae.re
  ·
   refine w ?_;repeat (refine zj λ_=>?_;refine w ?_)
   refine zS (trT sl 50) ?_;repeat (refine zj λ_=>?_;refine w ?_)
   have C:=a.went X A (⟨j.lo,j.lt,a.ok.rdark a2 (j.mono (eI _) (Nat.le_add_right t.c 3000)).toBq0 (Nat.le_add_right _ _)⟩:Went t n wp fr (·=V) Rd (t.c+3000) D2) (c2:=s0.c+9000) (by have:=a.c;omega);exact VE.results1 (.inl rfl) (⟨{t with D:=D2},l2,x2,50,sl⟩:Qp) rfl (aL.agg (vs:=trT sl 50) ah rfl rfl zm rfl rfl) (E _ _ _ _ b.1 C.1 (.inl ⟨C.2.2.lo,by have:=C.2.2.lt;omega,C.2.2.is⟩)) rfl ae.re
 ·
  obtain⟨⟨a,a2,a3,a4,a5⟩,x⟩:=hA;have b:=a.to.m;have ba:=a.c;have T:2*ps.length+1=M:=by rw[x.n,v]
  refine w ?_;repeat (refine zj λ_=>?_;refine w ?_)
  refine zq ?_;refine ay.gS rfl rfl (λ_ _=>by simp) (OI (R:=N8 y (Row nb 175 (uX o)::Row I 172 cD::R)) o ⟨r,ao,cap,l,y.x.1,y.x.2,y.out,xp.1,xp.2,ps⟩ a.ok a2 (by omega) (λp hp=>(x.of p hp).1) (by dsimp only;rw[x.n];unfold kz;omega) (by dsimp only;rw[T];exact a3)) ae.re rfl ?_;rintro⟨en,t'⟩ ⟨J,F⟩;dsimp only at J F⊢;rw[T]at F;refine w ?_;repeat (refine zj λ_=>?_;refine w ?_)
  refine zq ?_;refine ay.aB sb_172 rfl ?_;intro n10;refine w ?_;repeat (refine zj λ_=>?_;refine w ?_)
  refine zS (trJ t.Y.m en) ?_;repeat (refine zj λ_=>?_;refine w ?_)
  rcases F with⟨rfl,j,c2,c3,c4,c5,Z⟩|⟨rfl,j⟩
  ·
   refine w ?_;repeat (refine zj λ_=>?_;refine w ?_)
   refine VE.round (3,t',ps,xp) ⟨by dsimp only;omega,⟨⟨j,a.to.trans c2,by rw[c5];exact ba,λq=>Z.calm (a.calm q),λq=>(a.did q).trans Z⟩,by rw[c4];rfl,by rw[J];exact a4,by rw[c3];exact a5⟩,by rw[J];exact x⟩ (by dsimp only;omega) ⟨rfl,rfl,rfl,b7 rfl rfl,trivial⟩ ae.re
  ·
   refine w ?_;repeat (refine zj λ_=>?_;refine w ?_)
   refine zS (trJ t.Y.m 50) ?_;repeat (refine zj λ_=>?_;refine w ?_)
   have C:=a.went X A j (c2:=s0.c+9000) (by omega);exact VE.results1 (.inl rfl) (⟨t',ps,xp,50,t.Y.m⟩:Qp) rfl (aL.agg (vs:=trT t.Y.m 50) ah rfl rfl zm rfl rfl) (E _ _ _ _ (by rw[J];exact b.1) C.1 (.inl ⟨C.2.2.lo,by have:=C.2.2.lt;omega,C.2.2.is⟩)) rfl ae.re
 ·
  obtain⟨⟨a,a2,a3,a4⟩,x⟩:=hA;refine w ?_;repeat (refine zj λ_=>?_;refine w ?_)
  refine zq ?_;refine ay.gS rfl rfl (λ_ _=>by simp) (IC (R:=bL xp ps::bX ps::Sl.Own 3 1 (.slice (ik t.Y.fa) t.Y.m t.Y.m) t.Y.m (j8 fr)::A0 wp t.Y.b t.v t.D (N8 y (Row nb 175 (uX o)::Row I 172 cD::R))) o ⟨r,ao,cap,l,y.x.1,y.x.2,y.out,xp.1,xp.2,ps⟩ t.Y a3.2) ae.re rfl ?_;intro _ _;refine w ?_;repeat (refine zj λ_=>?_;refine w ?_)
  refine zq ?_;refine ay.aB sb_172 rfl ?_;intro n10;refine w ?_;repeat (refine zj λ_=>?_;refine w ?_)
  refine zS cD ?_;repeat (refine zj λ_=>?_;refine w ?_)
  exact VE.round (4,t,ps,xp) ⟨by dsimp only;omega,⟨a,a2,a3,a4⟩,x⟩ (by dsimp only;omega) ⟨rfl,rfl,rfl,b7 rfl rfl,trivial⟩ ae.re
 ·
  obtain⟨⟨a,a2,a3,a4⟩,x⟩:=hA;have b:=a.to.m;have ba:=a.c;have T:2*ps.length+1=M:=by rw[x.n,v]
  refine w ?_;repeat (refine zj λ_=>?_;refine w ?_)
  refine zq ?_;refine ay.gS rfl rfl (λ_ _=>by simp) (LA (R:=N8 y (Row nb 175 (uX o)::Row I 172 cD::R)) o ⟨r,ao,cap,l,y.x.1,y.x.2,y.out,xp.1,xp.2,ps⟩ a.ok (by omega) a2 a3.2 (x.Uh (bk t.Y a.ok.Y ⟨b.2.1,b.2.2.1,b.2.2.2.1⟩)) (by dsimp only;rw[x.n];unfold kz;omega)) ae.re rfl ?_;rintro⟨en,t'⟩ F;dsimp only at F⊢;refine w ?_;repeat (refine zj λ_=>?_;refine w ?_)
  refine zq ?_;refine ay.aB sb_172 rfl ?_;intro n10;refine w ?_;repeat (refine zj λ_=>?_;refine w ?_)
  refine zS (trJ t.Y.m en) ?_;repeat (refine zj λ_=>?_;refine w ?_)
  rcases F with⟨rfl,j,c2,c3,c4,c5,Z,c7⟩|⟨rfl,J,j⟩
  ·
   refine w ?_;repeat (refine zj λ_=>?_;refine w ?_)
   refine VE.round (5,t',ps,xp) ⟨by dsimp only;omega,⟨⟨j,a.to.trans c2,?_,λq=>Z.calm (a.calm q),λq=>(a.did q).trans Z⟩,by rw[c3];exact⟨rfl,rfl⟩,?_,by rw[c4],λD2 cc cr hb2=>(c7 D2 cc (by dsimp only at cr;omega) hb2).to a.to λ_ g=>g⟩,by rw[c3];exact x.re ⟨rfl,rfl,rfl⟩⟩ (by dsimp only;omega) ⟨rfl,rfl,rfl,b7 rfl rfl,trivial⟩ ae.re
   · dsimp only;omega
   · rw[c4];show t.v.used+(2* (ps.map aj.D).length+1)=_;rw[ew,T,a4]
  ·
   refine w ?_;repeat (refine zj λ_=>?_;refine w ?_)
   refine zS (trJ t.Y.m 50) ?_;repeat (refine zj λ_=>?_;refine w ?_)
   have C:=a.went X A j (c2:=s0.c+9000) (by omega);exact VE.results1 (.inl rfl) (⟨t',ps,xp,50,t.Y.m⟩:Qp) rfl (aL.agg (vs:=trT t.Y.m 50) ah rfl rfl zm rfl rfl) (E _ _ _ _ (by rw[J];exact b.1) C.1 (.inl C.2.2)) rfl ae.re
 ·
  obtain⟨⟨a,⟨a3,ag⟩,a4,a5,a7⟩,x⟩:=hA;have b:=a.to.m;have ba:=a.c;have bo:=a.ok.mx;refine VC.bH (λw O=>O.bn (e:=207) (sz:=3) (ao:=xp.1) (k:=ps.length) (cap:=xp.2) (xs:=bg ps) zm) ?_;intro cY;refine VC.bH (λw O=>bX.bH ((ae.re:ae W _ [bX ps]) w O)) ?_;intro da;have eb:∀S,bL xp ps∈S->bX ps∈S->bq W S t.Y.wo t.Y.wl:=λS m1 m2=>by rw[a3,ag];exact bq.own cY da m1 m2
  have br:t.Y.lazy=false:=b.2.2.2.2.2.1.trans bh;refine w ?_;repeat (refine zj λ_=>?_;refine w ?_)
  refine zq ?_;refine ay.gS rfl rfl (λ_ _=>by simp) (OD (R:=N8 y (Row nb 175 (uX o)::Row I 172 cD::R)) o ⟨r,ao,cap,l,y.x.1,y.x.2,y.out,xp.1,xp.2,ps⟩ a.ok (by omega) br (eb _ zm zm)) ae.re rfl ?_;rintro⟨en,sl,t'⟩ F;unfold EndOk at F;dsimp only at F⊢;rw[a5,ag]at F;refine w ?_;repeat (refine zj λ_=>?_;refine w ?_)
  refine zq ?_;refine ay.aB sb_172 rfl ?_;intro n10;refine w ?_;repeat (refine zj λ_=>?_;refine w ?_)
  refine zS (trT sl en) ?_;repeat (refine zj λ_=>?_;refine w ?_)
  rcases F with⟨rfl,rfl,j,c2,c3,c4,c5,N,Z,c7⟩|⟨rfl,J,j⟩|⟨rfl,J,c0,j⟩
  ·
   refine w ?_;repeat (refine zj λ_=>?_;refine w ?_)
   refine VE.round (6,t',ps,xp) ⟨by dsimp only;omega,j,a.to.trans c2,c3,by rw[c4],?_,by rw[c4];exact a4,λq=>Z.calm (a.calm q),λq=>⟨?_,x.n⟩⟩ (by dsimp only;omega) ⟨rfl,rfl,rfl,b7 rfl rfl,trivial⟩ ae.re
   · rw[ag]at bo;dsimp only;omega
   ·
    have:=(a.did q).trans Z;rwa [c7 x.nd (by rw[b.2.1,d];exact bE)]at this
  ·
   refine w ?_;repeat (refine zj λ_=>?_;refine w ?_)
   refine zS (trT sl 50) ?_;repeat (refine zj λ_=>?_;refine w ?_)
   have h1:s0.D.c8≠-1:=λq=>by have:=a.calm q;have:=j.lo;omega
   have h2:=A.resolve_left h1;obtain⟨d1,d2⟩:=(a.did h2).tr (by omega);have ef:=j.lo;have ej:=j.lt;refine VE.results1 (.inl rfl) (⟨t',ps,xp,50,sl⟩:Qp) rfl (aL.agg (vs:=trT sl 50) ah rfl rfl zm rfl rfl) (E _ _ _ _ (by rw[J];exact b.1) h2 (.inr (.inl ⟨by omega,by omega,by omega,?_⟩))) rfl ae.re;exact a7 _ _ (by omega) (j.mono (eI _) (by omega)).toBq0
  ·
   refine w ?_;repeat (refine zj λ_=>?_;refine w ?_)
   refine zS (trT sl 50) ?_;repeat (refine zj λ_=>?_;refine w ?_)
   have C:=a.went X A j (c2:=s0.c+9000) (by omega);have h1:s0.D.c8≠-1:=λq=>by have:=a.calm q;have:=j.lo;omega
   obtain⟨d1,d2⟩:=(a.did C.1).tr (by omega);have dr:=C.2.2.lt;have ek:=x.n;exact VE.results1 (.inl rfl) (⟨t',ps,xp,50,sl⟩:Qp) rfl (aL.agg (vs:=trT sl 50) ah rfl rfl zm rfl rfl) (E _ _ _ _ (by rw[J];exact b.1) C.1 (.inr (.inr ⟨by simp at c0;omega,C.2.2.lo,by simp at dr;omega,C.2.2.is⟩))) rfl ae.re
 ·
  obtain⟨a,a2,a3,a4,a5,x,a7,a8⟩:=hA;refine w ?_;repeat (refine zj λ_=>?_;refine w ?_)
  apply VO.pure rfl rfl;apply af.build sb_172 (pv:=[]) rfl;rfl;rfl;refine zS cD ?_;repeat (refine zj λ_=>?_;refine w ?_)
  refine VE.results1 (.inl rfl) (⟨t,ps,xp,0,0⟩:Qp) rfl (aL.agg (vs:=cD) ah rfl rfl zm rfl rfl) (S9.at (s0:=s0) ⟨y,by rw[<-d,<-f];exact hy,.inl ⟨rfl,rfl,a,a2,⟨(a.nil a3).1,a3⟩,a4,a5,by rw[v];exact x,a7,λq=>?_⟩⟩ bx au K bf) rfl ae.re;rw[v]at q;obtain⟨g1,g2⟩:=a8 q;rw[<-d,<-f,av];rwa [show Rd+3*kz y.out+3=Rd+M+1+(1+ps.length)by omega]
end
end Go.Proofs.YtldolcbbmnmjoaaGreat
namespace Go.Sl
open Go.RowKit
section
variable{W:World}{P:Program}{n:Nat}{H G':List ab}{f:Fr}
theorem VF.leavePanic1{fn:Func}{g:FuncId}{cap:Array Value}{vs:List Value}{c:ResultVar}{v pv:Value}{β:Type}{A:β->Prop}{r:β->Value}{G:β->List ab}
  (l:∀a w,(callFunc g a).run P w= .ok (.enter g a) w)(spec:jm W P g (vs++cap.toList) H (.panicking (UD pv)) (.panicking (Uj pv)) G')(x:β)(s:fn.results=#[c])(i:aL W P G' f c v)(j:A x)(p:v=r x)(k:ae W G' (G x)):
  VF W n ⟨none,[{target:= .fn (.func g) cap,args:=vs.toArray}]⟩ (bodyPostD P fn (lh W A r G)) (.panic (UD pv)) H f:=by
 unfold VF;intro _ t w m q;have key:Leaves P fn t (lh W A r G) [{target:= .fn (.func g) cap,args:=vs.toArray}] (.panicking (UD pv)) w:=by
  refine leaves_cons (f:=g) (args:=vs.toArray++cap) (by simp) (by simp[Go.invoke,l]) ?_;unfold jm at spec;have b:=spec w q;rw[show(vs++cap.toList).toArray=vs.toArray++cap by apply Array.ext';simp]at b;refine CallsD.mono b ?_;rintro e u h ⟨rfl,⟨v0,rfl⟩,d⟩;have o:(results fn t).run P h= .ok v h:=by
   have:=i.run m d;cases c<;>simp_all [results]
  exact⟨_,o,x,j,by rw[p],k _ d⟩
 exact key
end
end Go.Sl
namespace Go.Proofs.YtldolcbbmnmjoaaGreat
open Go.RowKit Go.Sl
attribute [local irreducible] Sl.Own
theorem rsealed_ok{W:World}{R:List ab}(r:Nat)(Y:eA):az W Tryz.prog 103 [ip r] (Row r 128 Y.cells::R) (.bool Y.sl) (Row r 128 Y.cells::R):=by
 refine ze Tryz.func103 Tryz.ntmps103 ?_;refine VE.ax rfl ?_ ?_
 · rfl
 · exact ae.refl
theorem agone50_ok{W:World}{R:List ab}:az W Tryz.prog 105 [i6 50] R (.bool false) R:=by
 refine ze Tryz.func105 Tryz.ntmps105 ?_;exact VE.ax rfl rfl ae.refl
theorem ahalt_dies{W:World}{R:List ab}(a:Nat)(X:aY):Dies W Tryz.prog 170 [ip a,i6 50] (Row a 94 X.cells::R) (stopI 50) R:=by
 refine Dies.enter Tryz.func170 Tryz.ntmps170 rfl rfl ?_;obtain⟨b,d,c⟩:∃k,Tryz.prog.underlying 243=some k/\∀ms,k≠.interface ms:=⟨_,rfl,λms h=>by cases h⟩;refine w ?_;apply VO.pure rfl rfl;apply af.build sb_243 rfl;simp[aC,bR,Value.cells];rfl;rfl;refine VO.pure rfl rfl (af.kV d c rfl) rfl ?_;refine zq ?_;refine ay.panic rfl ?_;(repeat (first|refine VE.passPanic ?_|refine VE.blockPanic ?_|refine VE.loopPanic ?_));exact VE.dies (ae.drop ae.refl)
theorem atrouble_dies{W:World}{R:List ab}(a:Nat)(X:aY)(b:Nat):Dies W Tryz.prog 108 [ip a,.agg (trT b 50).toArray] (Row a 94 X.cells::R) (stopI 50) R:=by
 refine Dies.enter Tryz.func108 Tryz.ntmps108 rfl rfl ?_;refine w ?_;repeat (refine zj λ_=>?_;refine w ?_)
 refine zq ?_;refine ay.callDies rfl rfl (λ_ _=>by simp) (ahalt_dies a X) ae.re ?_;(repeat (first|refine VE.passPanic ?_|refine VE.blockPanic ?_|refine VE.loopPanic ?_));exact VE.dies ae.re
end Go.Proofs.YtldolcbbmnmjoaaGreat
namespace Go.Proofs.YtldolcbbmnmjoaaGreat
open Go.RowKit Go.Sl
attribute [local irreducible] Sl.Own
section
variable{W:World}{R:List ab}{s:iu}{n wp m c:Nat}{fr:List Int}{l:List cQ}
def Up(s:iu)(n wp:Nat)(fr:List Int)(B:Nat->List UInt8)(l:List cQ):Option Qp->Prop
  |none=>s.v.size<2*dF s.Y.m s.Y.c l+1\/l=[]
  |some y=>2*dF s.Y.m s.Y.c l+1<=s.v.size/\l≠[]/\S9 s n wp fr (fy s.Y.m s.Y.c B) (fy s.Y.m s.Y.c (hU l B)) s.Y.m s.Y.c l y
def AwE(s:iu)(l:List cQ):Option Qp->Nat
  |none=>if s.v.size<2*dF s.Y.m s.Y.c l+1 then 122 else 0
  |some y=>y.e
def Uz(s:iu)(a r wp:Nat)(X:aY)(fr:List Int)(R:List ab):Option Qp->List ab
  |none=>Row a 94 X.cells::sF s r wp fr R
  |some y=>if y.e=0 then Row a 94 X.cells::sF y.t r wp fr (bL y.x y.ps::bX y.ps::R)else al s.Y.b y.t.D::R
theorem IA{B:Nat->List UInt8}{ao:Option Addr}{cap:Nat}(a r:Nat)(X:aY)(Z:X.ok)(I:X.ro=false)(O:X.r=ik r)(e:s.Y.m=X.m/\s.Y.c=X.c/\s.Y.s=X.s)(H:X.ring=s.v.size)(h:s.okl n wp fr (fy s.Y.m s.Y.c B))(F:(s.Y.wo=none/\s.Y.wl=[])/\s.v.sure=true/\s.Y.lazy=false)(K:∀k row,k<s.Y.m->¬gB fr k row)(G:l.length<=256)(N:iT W R ao l)(D:∀p∈l,p.dV<s.Y.s*s.Y.c* (s.Y.m-1))(P:∀b,b<s.Y.s*s.Y.c* (s.Y.m-1)->(B b).length=128)(E:s.c<=900000)(J:s.D.c8=-1\/2*dF s.Y.m s.Y.c l+1<=s.v.size-s.v.used):
  aq W Tryz.prog 58 [ip a,.slice ao l.length cap] (Row a 94 X.cells::sF s r wp fr R) (β:=Option Qp) (Up s n wp fr B l) (λy=>i6 (AwE s l y)) (Uz s a r wp X fr R):=by
 have U:=h.live.size;obtain⟨M,j⟩:∃M,dF s.Y.m s.Y.c l=M:=⟨_,rfl⟩;have v:=λS (q:ae W S R)=>HO (W:=W) (R:=S) (cap:=cap) h.Y.m h.Y.c h.Y.s G (N.aR q) D;rw[e.1,e.2.1,e.2.2]at v;refine aq.oL Tryz.func58 Tryz.ntmps58 rfl rfl ?_;refine wr ?_;refine zq ?_;refine ay.alloc (z:=(i6 0)) (λw=>by simp) rfl rfl ?_;intro ne;refine wr ?_;refine VR.iF rfl rfl rfl rfl ?_;refine wr ?_;refine zr (s:=jD a X) (h:=?_);intro _ _;refine wr ?_;refine VR.aK rfl rfl (I) ?_;refine wr ?_;refine zt (s:=v _ (ae.drop (ae.drop (ae.drop (ae.drop (ae.drop (ae.drop ae.refl))))))) (h:=?_);intro y L;rw[L.PH,<-e.1,<-e.2.1,j];have Q:M<=70000:=by
  have:=L.outs;rw[<-j,e.1,e.2.1,<-L.PH];have V:=BU y.out this.2;have Y:y.out.length*l.length<=256*256:=RC (by omega) G;unfold kz;omega
 refine wr ?_;(refine VR.cond rfl rfl ?_ ?_<;>intro f)
 ·
  have o:s.v.size<2*M+1:=by have:=cI f;omega
  clear f;refine wr ?_;refine VF.aR (H':=Row ne 40 [i6 122]::Row a 94 X.cells::sF s r wp fr R) ae.re ?_;exact VF.kU (.inl rfl) (λ_ _=>by simp) gp none rfl (aL.leaf ah rfl rfl (.head _) rfl) (.inl (by rw[j];exact o)) (by unfold AwE;dsimp only;rw[j,lam o];rfl) (ae.drop ae.refl)
 have d:2*M+1<=s.v.size:=by have:=dx f;omega
 clear f;refine wr ?_;(refine VR.cond rfl rfl ?_ ?_<;>intro f)
 ·
  have u:l=[]:=te.1 (by simpa using f);clear f;refine wr ?_;refine VF.aR (H':=Row ne 40 [i6 0]::Row a 94 X.cells::sF s r wp fr R) ae.re ?_;exact VF.kU (.inl rfl) (λ_ _=>by simp) gp none rfl (aL.leaf ah rfl rfl (.head _) rfl) (.inr u) (by unfold AwE;dsimp only;rw[j,aE (by omega)];rfl) (ae.drop ae.refl)
 have u:l≠[]:=λe=>by rw[e]at f;simp at f
 clear f;refine wr ?_;refine VR.loop (α:=Unit) (λ_=>True) (λ_=>Row ne 40 [i6 0]::Row a 94 X.cells::sF s r wp fr R) (λ_=>[(0,ip a),(1,.slice ao l.length cap),(4,ip ne)]) (λ_=>0) rfl () trivial ae.re ⟨rfl,rfl,rfl,trivial⟩ ?_;intro _ _;refine wr ?_;refine VO.re 45 (ip r) rfl (by rw[O]) ?_;refine wr ?_;refine zr (s:=Kb (R:=Row ne 40 [i6 0]::Row a 94 X.cells::R) r h F K G u (N.aR (ae.drop (ae.drop ae.refl))) D P (by rw[j];exact d) J E) (h:=?_);rintro⟨t,ps,x,en,i⟩ C;refine wr ?_;refine zq ?_;refine ay.aB sb_172 rfl ?_;intro n6;refine wr ?_;refine zq ?_;refine ay.gL (vs:=trT i en) ah rfl rfl rfl rfl (by simp[Value.oneCell']) zh (by simp) ?_;obtain⟨T,A⟩:(en=0\/en=50)/\(en=50->t.Y.b=s.Y.b):=by
  obtain⟨q,-,h|h⟩:=C
  · exact⟨.inl h.1,λg=>by have:=h.1;dsimp only at this;omega⟩
  · exact⟨.inr h.1,λ_=>h.2.1⟩
 rcases T with rfl|rfl
 ·
  refine wr ?_;refine VF.aR (H':=Row ne 40 [i6 0]::Row a 94 X.cells::sF t r wp fr (bL x ps::bX ps::R)) ae.re ?_;exact VF.kU (.inl rfl) (λ_ _=>by simp) gp (some ⟨t,ps,x,0,i⟩) rfl (aL.leaf ah rfl rfl (.head _) rfl) ⟨by rw[j];exact d,u,C⟩ rfl (ae.drop ae.refl)
 refine wr ?_;refine VO.re 54 (ip r) rfl (by rw[O]) ?_;refine zr (s:=rsealed_ok r t.Y) (h:=?_);intro _ _;refine wr ?_;refine VR.drawn [3] 4 [0,1,2,3,4,5,6,7,8,9] _ rfl (by kernel_rfl) (by kernel_rfl) ae.re ?_;refine wr ?_;refine zr (s:=jX a X) (h:=?_);intro _ _;refine wr ?_;refine zg ?_ ?_<;>intro D
 ·
  refine wr ?_;(first|refine VO.gT rfl rfl rfl (rfl) ?_|refine VD.gT rfl rfl rfl (rfl) ?_);refine zt (s:=agone50_ok) (h:=?_);intro _ _;refine wr ?_;refine VO.re 75 (.agg (trT i 50).toArray) rfl rfl ?_;refine zq ?_;refine ay.callDies rfl rfl (λ_ _=>by simp) (atrouble_dies (R:=al t.Y.b t.D::Row ne 40 [i6 0]::R) a X i) ae.re ?_;refine VE.sh ?_;(repeat (first|refine VF.passPanic ?_|refine VF.blockPanic ?_|refine VF.loopPanic ?_));refine VF.aR (H':=Row ne 40 [i6 0]::al t.Y.b t.D::R) ae.re ?_;exact VF.leavePanic1 (λ_ _=>by simp) (guard_pan 50) (some ⟨t,ps,x,50,i⟩) rfl (aL.leaf ah rfl rfl (.head _) rfl) ⟨by rw[j];exact d,u,C⟩ rfl (by rw[show Uz s a r wp X fr R (some ⟨t,ps,x,50,i⟩)=al s.Y.b t.D::R from rfl,<-A rfl];exact ae.drop ae.refl)
 ·
  iterate 3 (refine VD.H6 rfl rfl ae.re rfl rfl rfl ?_)
  refine wr ?_;refine VO.re 75 (.agg (trT i 50).toArray) rfl rfl ?_;refine zq ?_;refine ay.callDies rfl rfl (λ_ _=>by simp) (atrouble_dies (R:=al t.Y.b t.D::Row ne 40 [i6 0]::R) a X i) ae.re ?_;refine VE.sh ?_;(repeat (first|refine VF.passPanic ?_|refine VF.blockPanic ?_|refine VF.loopPanic ?_));refine VF.aR (H':=Row ne 40 [i6 0]::al t.Y.b t.D::R) ae.re ?_;exact VF.leavePanic1 (λ_ _=>by simp) (guard_pan 50) (some ⟨t,ps,x,50,i⟩) rfl (aL.leaf ah rfl rfl (.head _) rfl) ⟨by rw[j];exact d,u,C⟩ rfl (by rw[show Uz s a r wp X fr R (some ⟨t,ps,x,50,i⟩)=al s.Y.b t.D::R from rfl,<-A rfl];exact ae.drop ae.refl)
end
end Go.Proofs.YtldolcbbmnmjoaaGreat
namespace Go.Proofs.YtldolcbbmnmjoaaGreat
open Go.RowKit Go.Sl
attribute [local irreducible] Sl.Own
section
variable{W:World}{R:List ab}
theorem Ex(r:Nat)(Y:eA):az W Tryz.prog 24 [.pointer (some ⟨r,0,none⟩)] (Row r 128 Y.cells::R) (ii Y.wl.length) (Row r 128 Y.cells::R):=by
 refine ze Tryz.func24 Tryz.ntmps24 ?_;exact VE.ax rfl rfl ae.refl
abbrev vU.z(X:aY):ai:={X.sup with role:=0}
abbrev vU.sup(X:aY)(x:Option Addr×Nat):ai:={X.sup with role:=0,so:=x.1,sc:=x.2}
abbrev lP(s:ai)(ro:Bool)(p u:Nat):List Value:=[i8 s.id,i8 s.events,i8 s.safe,ii s.role,ii s.members,ii s.chunk,ii s.bG,ii s.ring,.bool s.lazy,.bool s.lost,.slice s.so s.au.length s.sc,ii s.dc,.bool ro,.bool false,ii p,ii u]
theorem Fl(a r wp:Nat)(X:aY)(e:X.ro=false)(j:X.r=some ⟨r,0,none⟩)(g:X.w=some ⟨wp,0,none⟩)(k:X.st.length<=16)(Y:eA)(v:bT)(b:Nat):
  aq W Tryz.prog 16 [.pointer (some ⟨a,0,none⟩)] (Row a 94 X.cells::dz X::Row r 128 Y.cells::bz wp b v::R) (β:=Option Addr×Nat) (λ_=>True) (λx=>.agg (lP (vU.sup X x) false Y.wl.length v.used).toArray) (λx=>Sl.Own 96 1 (.slice x.1 X.st.length x.2) X.st.length (bytes X.st)::dz X::Row a 94 X.cells::Row r 128 Y.cells::bz wp b v::R):=by
 refine ze Tryz.func16 Tryz.ntmps16 ?_;refine zq ?_;refine ay.aB mM rfl ?_;intro f;refine w ?_;refine VC.join (α:=Nat) (λ_=>True) (λc=>Row c 48 (lP X.sup false Y.wl.length 0)::Row f 48 (lP bO false 0 0)::Row a 94 X.cells::dz X::Row r 128 Y.cells::bz wp b v::R) (λc=>[(0,.pointer (some ⟨a,0,none⟩)),(2,.pointer (some ⟨f,0,none⟩)),(3,.pointer (some ⟨c,0,none⟩))]) ?_ ?_
 ·
  intro l i;refine VC.vw [17,19] 20 [0,1,2,3,4,5,6,7,8,9,10,11,12,13,14,15,16] [[17,18,19,20],[19,17,18,20]] _ rfl (by kernel_rfl) (by kernel_rfl) ae.refl ?_;refine w ?_;have d:=λS=>Ex (W:=W) (R:=S) r Y;rw[<-j]at d;refine VE.vf ?_ ?_
  ·
   refine zr (s:=d (Row f 48 (lP bO false 0 0)::Row a 94 X.cells::dz X::bz wp b v::R)) (h:=?_);intro _ _;refine w ?_;apply VD.take rfl rfl rfl;apply af.build mM rfl;simp[aC,bR,Value.cells];rfl;rfl;refine zw ?_;refine ay.aB mM rfl ?_;intro c;refine zw ?_;refine ay.gL (vs:=lP X.sup X.ro Y.wl.length 0) ah rfl rfl rfl rfl (by simp[Value.oneCell']) zh (by simp) ?_;rw[e];refine w ?_;exact i.to c trivial ⟨rfl,rfl,rfl,trivial⟩ ae.re
  ·
   refine zq ?_;refine ay.aB mM rfl ?_;intro c;refine zr (s:=d (Row c 48 (lP bO false 0 0)::Row f 48 (lP bO false 0 0)::Row a 94 X.cells::dz X::bz wp b v::R)) (h:=?_);intro _ _;refine w ?_;apply VD.take rfl rfl rfl;apply af.build mM rfl;simp[aC,bR,Value.cells];rfl;rfl;refine zw ?_;refine ay.gL (vs:=lP X.sup X.ro Y.wl.length 0) ah rfl rfl rfl rfl (by simp[Value.oneCell']) zh (by simp) ?_;rw[e];refine w ?_;exact i.to c trivial ⟨rfl,rfl,rfl,trivial⟩ ae.re
 intro c _;refine zr (s:=wu (R:=Row c 48 (lP (vU.z X) false Y.wl.length 0)::Row f 48 (lP bO false 0 0)::Row a 94 X.cells::dz X::Row r 128 Y.cells::bz wp b v::R) (dz.gz (X:=X) zm) zO) (h:=?_);intro x _;refine w ?_;refine VO.gT rfl rfl rfl (by rw[g];rfl) ?_;refine w ?_;refine VC.cU rfl rfl (by rw[e];rfl) ?_;refine w ?_;refine VO.re 48 (.pointer (some ⟨wp,0,none⟩)) rfl (by rw[g]) ?_;refine zr (s:=yq (R:=Row c 48 (lP (vU.sup X x) false Y.wl.length 0)::Row f 48 (lP bO false 0 0)::Sl.Own 96 1 (.slice x.1 X.st.length x.2) X.st.length (bytes X.st)::Row a 94 X.cells::dz X::Row r 128 Y.cells::R) wp b v) (h:=?_);intro _ _;refine zS (lP (vU.sup X x) false Y.wl.length v.used) ?_;exact VE.results1 (.inl rfl) x rfl (aL.agg (vs:=lP (vU.sup X x) false Y.wl.length v.used) ah rfl rfl zm rfl rfl) trivial rfl ae.re
end
end Go.Proofs.YtldolcbbmnmjoaaGreat
namespace Go.Proofs.YtldolcbbmnmjoaaGreat
open Go.RowKit Go.Sl
attribute [local irreducible] Sl.Own
theorem Jq{W:World}{R:List ab}(g:rE)(h:¬g.aX):az W Tryz.prog 21 [.agg g.cells.toArray] R (ii ((0:Nat):Int)) R:=by
 refine ze Tryz.func21 Tryz.ntmps21 ?_;refine zj λ_=>?_;refine zr (s:=Mi g) (h:=?_);intro _ _;rw[aE h];refine zw ?_;refine ay.aB Nn rfl ?_;intro a;refine zS g.shape ?_;exact VE.ax rfl rfl (ae.drop (ae.drop ae.refl))
theorem Jp{W:World}{R:List ab}(g:rE)(h:g.aX):az W Tryz.prog 21 [.agg g.cells.toArray] R (ii (g.s*g.c)) R:=by
 obtain⟨m,c,s⟩:=g;have a:(3<=m/\m<=16)/\(1<=c/\c<=16)/\(1<=s/\s<=256):=h;obtain⟨m,rfl⟩:=RA (show 0<=m by omega);obtain⟨c,rfl⟩:=RA (show 0<=c by omega);obtain⟨s,rfl⟩:=RA (show 0<=s by omega);have q:=gn (W:=W) (R:=R) (m:=m) (c:=c) (s:=s) zO zO zO;rw[Int.natCast_mul]at q;exact q
def Bb(b:cO):ab:=Sl.Own 96 1 (.slice b.s.so b.s.au.length b.s.sc) b.s.au.length (bytes b.s.au)
def Ao(n i:Nat)(s:ai):Int:=if i+1=n then 2+s.ring else 1+s.bG*s.chunk
def CS(n i:Nat)(a:ak):Bool×ai:=if(jg (a.look 0)).1=0/\Ao n i (jg (a.look 0)).2<=(a.last.length:Int)then(true,(jg (a.look 0)).2)else(false,bO)
abbrev ai.bare(s:ai):ai:={s with so:=none,sc:=0}
structure Il(n i:Nat)(kd:ak)(b:cO):Prop where
  fit:b.s.fit
  nil:b.s.so=none->b.s.au.length=0
  has:b.has=(CS n i kd).1
  s:b.s.bare=(CS n i kd).2
abbrev eL:cO:=⟨false,bO⟩
theorem vH{n i:Nat}{a:ak}(h:CS n i a=(false,bO)):Il n i a eL:=⟨by constructor<;>simp[bO],λ_=>rfl,by rw[h],by rw[h];rfl⟩
abbrev y5(x:Option Addr×Nat)(l:List cO):ab:=Sl.Own 263 13 (.slice x.1 l.length x.2) l.length (eJ l)
theorem yH(l:List cO)(b:cO):eJ (l++[b])=eJ l++b.cells:=by simp[eJ]
theorem mA{W:World}{T:List ab}{A:ab}{l:List cO}{b:cO}:ae W (Bb b::A::cG Bb l::T) (A::cG Bb (l++[b])::T):=λw c=>
 (du (res:=Bb) (a:=b) (c.perm ((List.Perm.swap _ _ _).cons _))).swap
theorem Gy(l:List UInt8):(jg l=(0,ai.parse l)/\(ai.parse l).yD)\/∃e,e≠0/\jg l=(e,dk):=by
 unfold jg;split
 · exact .inr ⟨_,by decide,rfl⟩
 ·
  split
  · exact .inr ⟨_,by decide,rfl⟩
  ·
   split
   · exact .inr ⟨_,by decide,rfl⟩
   ·
    split
    ·
     rename_i h;refine .inl ⟨rfl,?_⟩;rcases Decidable.em (ai.parse l).yD with g|g
     · exact g
     · rw[x5 g]at h;cases h
    · exact .inr ⟨_,by decide,rfl⟩
structure SX where
  l:List cO
  x:Option Addr×Nat
  D:aw
theorem Fo{W:World}{R:List ab}{D:aw}{K:Kd}{n c0:Nat}(b:Nat)(hq:Bq D n K c0)(hn:n<=17)(hK:∀i,i<n->∃r,K i=some r/\0<r.last.length):
  aq W Tryz.prog 124 [ip b] (al b D::R) (β:=SX) (λy=>Bq y.D n K c0/\y.l.length=n/\∀i (h:i<y.l.length),∃r,K i=some r/\Il n i r y.l[i]) (λy=>.tuple #[.slice y.x.1 y.l.length y.x.2,i6 0])
   (λy=>y5 y.x y.l::cG Bb y.l::al b y.D::R):=by
 (refine aq.enter Tryz.func124 Tryz.ntmps124 rfl rfl ?_);refine zr (s:=fK b D) (h:=?_);intro _ _;rw[hq.len];refine w ?_
 refine VC.loop (α:=Nat×SX) (λy=>y.1<=n/\Bq y.2.D n K c0/\y.2.l.length=y.1/\∀i (h:i<y.2.l.length),∃r,K i=some r/\Il n i r y.2.l[i]) (λy=>y5 y.2.x y.2.l::cG Bb y.2.l::al b y.2.D::R)
  (λy=>[(0,ip b),(4,.slice y.2.x.1 y.2.l.length y.2.x.2),(13,ii n),(14,ii y.1)]) (λy=>n-y.1) rfl (0,⟨[],(none,0),D⟩) ⟨c7 _,hq,rfl,λi h=>lcs h (Nat.not_lt_zero _)⟩
  (λw E=>by have h2:=(di (res:=Bb) E).aZ 263 13;exact h2) ⟨rfl,rfl,rfl,rfl,trivial⟩ ?_
 rintro⟨i,l,x,D'⟩ ⟨hi,U,hl,F⟩;dsimp only at hi U hl F⊢;refine w ?_;refine zk ?_ ?_<;>intro C
 ·
  have ad:i<n:=by have:=cI C;omega
  clear C;refine w ?_;apply VO.pure rfl rfl;apply af.build sb_263 (pv:=[]) rfl;rfl;rfl;refine zq ?_;refine ay.aB sb_263 rfl ?_;intro n6;refine zl eL.cells (iW _) ?_;obtain⟨r,J,aa⟩:=hK i ad;obtain⟨o,ag,u⟩:=U.read (a:=0) J aa;have Q:((o.dev i).elim (0:Int) λv=>(v.k.last.length:Int))=r.last.length:=by rw[EG (u.is i r J).1];rfl
  have Y:=ak.r5 (u.is i r J).2.2 aa;have B:=λR=>nk (W:=W) (R:=R) b D' (i:Int) 0;rw[show((0:Nat):Int)=0 from rfl]at ag;rw[ag]at B;obtain⟨t,S⟩:∃t,t=r.look 0:=⟨_,rfl⟩;rw[<-S]at B Y;refine zr (s:=B _) (h:=?_);intro y hy;refine VO.bH (λw E=>E.jd (.head _)) ?_;intro Z;refine w ?_;have k:∀(x:cO)(o:aw),Il n i r x->Bq o n K c0->i+1<=n/\Bq o n K c0/\(l++[x]).length=i+1/\∀j (h:j<(l++[x]).length),∃r,K j=some r/\Il n j r (l++[x])[j]:=λx o hx hD=>⟨ad,hD,by rw[c9,ie,hl],λj hj=>by
   rw[c9,ie]at hj;rcases w9 j l.length with q|q
   · rw[TV q];exact F j q
   ·
    obtain rfl:j=l.length:=by omega
    rw[List.getElem_concat_length rfl,hl];exact⟨r,J,hx⟩⟩
  have V:∀(x:cO)(p:Option Addr×Nat),Sl.Own 263 13 (.slice p.1 (l.length+1) p.2) (l.length+1) (eJ l++x.cells)=y5 p (l++[x]):=λx p=>by
   unfold y5;rw[yH,c9];rfl
  have bk:Bb eL=Sl.Own 96 1 (.slice none 0 0) 0 []:=rfl;have ba:∀H:List ab,b8 y t∈H->aV W H 1 y.1 t.length (bytes t):=λH m=>aV.own (aQ _) m (by simp) hy;have d:(jg t).1=0->Ao n i (jg t).2<=(r.last.length:Int)->CS n i r=(true,(jg t).2):=λh1 h2=>by rw[S]at h1 h2⊢;exact lam ⟨h1,h2⟩
  have c:¬((jg t).1=0/\Ao n i (jg t).2<=(r.last.length:Int))->CS n i r=(false,bO):=λh=>by rw[S]at h;exact aE h
  refine zt (s:=Gz (ba _ zm) Z) (h:=?_);intro st _;refine VO.bH (λw E=>(⟨E.bn (.head _),E.jd (.head _)⟩:(st.1=none->(jg t).2.au.length=0)/\(jg t).2.au.length<=st.2)) ?_;rintro⟨O,N⟩;rcases Gy t with⟨hd,T⟩|⟨e,he,hd⟩
  ·
   dsimp only[sn];rw[hd]at O N d c⊢;dsimp only at O N d c⊢;replace d:=d rfl;replace c:¬Ao n i (ai.parse t)<=(r.last.length:Int)->CS n i r=(false,bO):=λh=>c λq=>h q.2;obtain⟨sup,z⟩:∃x,x=(ai.parse t).hold st (ai.parse t).au:=⟨_,rfl⟩;have an:=cI T.1.1;have bb:=T.1.2.2.2.1;have I:=Au t st N;have X:sup.members=(ai.parse t).members/\sup.chunk=(ai.parse t).chunk/\sup.bG=(ai.parse t).bG/\sup.ring=(ai.parse t).ring:=by rw[z];exact⟨rfl,rfl,rfl,rfl⟩
   have e2:ug st (ai.parse t).au=Bb ⟨true,sup⟩:=by rw[z];rfl
   rw[<-z]at I⊢;rw[e2];rw[<-X.1,<-X.2.1,<-X.2.2.1]at an;rw[<-X.2.2.2]at bb;have P:sup.so=none->sup.au.length=0:=by rw[z];exact O
   have G:sup.bare=ai.parse t:=by rw[z];rfl
   rw[<-G]at d c;have M:Ao n i sup.bare=if i+1=n then 2+sup.ring else 1+sup.bG*sup.chunk:=rfl;rw[M]at d c;clear G X e2 z hd T O N;have bf:0<=sup.bG*sup.chunk:=Int.mul_nonneg zO zO;have bh:sup.bG*sup.chunk<=256*16:=Int.mul_le_mul zO zO zO zO;refine zw ?_;refine ay.aB sb_46 rfl ?_;intro n9;refine zl sup.cells (cB _) ?_;refine zt (s:=Jp ⟨sup.members,sup.chunk,sup.bG⟩ an) (h:=?_);intro _ _;dsimp only;refine zr (s:=fK b o) (h:=?_);intro _ _;rw[u.len];refine w ?_;by_cases hj:i+1=n
   ·
    rw[lam hj]at d c;refine VC.cU rfl rfl (by rw[beq_iff_eq];omega) ?_;refine zr (s:=jS b o i) (h:=?_);intro _ _;rw[Q];refine w ?_;refine zk ?_ ?_<;>intro C
    ·
     have A:=cI C;clear C;replace d:=d zO;refine w ?_;apply VO.pure rfl rfl;apply af.build sb_263 rfl;simp[aC,bR,Value.cells];rfl;rfl;refine zl (cO.cells ⟨true,sup⟩) (iW _) ?_;refine VO.re 58 (.agg (cO.cells ⟨true,sup⟩).toArray) rfl rfl ?_;refine zq ?_;refine ay.buildSlice (cs:=cO.cells ⟨true,sup⟩) st_191 rfl rfl (by simp[Value.cells]) (lj _) (by decide) rfl ?_;intro nc;refine zq ?_;refine ay.cg st_191 rfl rfl zh zm rfl (iW _) (by simp only[maxLen];omega) zO rfl ?_;intro g f;refine w ?_;refine VE.round (i+1,⟨l++[⟨true,sup⟩],(g,f),o⟩) (k ⟨true,sup⟩ o (⟨I,P,by rw[d],by rw[d]⟩) u) (by dsimp only;omega) ⟨rfl,b7 rfl (by simp),rfl,b7 rfl (by congr 1),trivial⟩ ?_;refine ae.trans (ae.re (L:=Bb ⟨true,sup⟩::Sl.Own 263 13 (.slice g (l.length+1) f) (l.length+1) (eJ l++cO.cells ⟨true,sup⟩)::cG Bb l::al b o::R)) ?_;rw[V ⟨true,sup⟩ (g,f)];exact mA
    ·
     have A:=dx C;clear C;replace c:=c zO;refine w ?_;refine VO.re 58 (.agg (cO.cells eL).toArray) rfl rfl ?_;refine zq ?_;refine ay.buildSlice (cs:=cO.cells eL) st_191 rfl rfl (by simp[Value.cells]) (lj _) (by decide) rfl ?_;intro nc;refine zq ?_;refine ay.cg st_191 rfl rfl zh zm rfl (iW _) (by simp only[maxLen];omega) zO rfl ?_;intro g f;refine w ?_;refine VE.round (i+1,⟨l++[eL],(g,f),o⟩) (k eL o (vH c) u) (by dsimp only;omega) ⟨rfl,b7 rfl (by simp),rfl,b7 rfl (by congr 1),trivial⟩ ?_;refine ae.trans (ae.re (L:=Sl.Own 263 13 (.slice g (l.length+1) f) (l.length+1) (eJ l++eL.cells)::cG Bb l::al b o::R)) ?_;rw[V eL (g,f)];exact λw E=>mA (b:=eL) w (E.aZ 96 1)
   ·
    rw[aE hj]at d c;refine VC.aK rfl rfl (by rw[beq_eq_false_iff_ne];omega) ?_;refine zr (s:=jS b o i) (h:=?_);intro _ _;rw[Q];refine w ?_;refine zk ?_ ?_<;>intro C
    ·
     have A:=cI C;clear C;replace d:=d zO;refine w ?_;apply VO.pure rfl rfl;apply af.build sb_263 rfl;simp[aC,bR,Value.cells];rfl;rfl;refine zl (cO.cells ⟨true,sup⟩) (iW _) ?_;refine VO.re 58 (.agg (cO.cells ⟨true,sup⟩).toArray) rfl rfl ?_;refine zq ?_;refine ay.buildSlice (cs:=cO.cells ⟨true,sup⟩) st_191 rfl rfl (by simp[Value.cells]) (lj _) (by decide) rfl ?_;intro nc;refine zq ?_;refine ay.cg st_191 rfl rfl zh zm rfl (iW _) (by simp only[maxLen];omega) zO rfl ?_;intro g f;refine w ?_;refine VE.round (i+1,⟨l++[⟨true,sup⟩],(g,f),o⟩) (k ⟨true,sup⟩ o (⟨I,P,by rw[d],by rw[d]⟩) u) (by dsimp only;omega) ⟨rfl,b7 rfl (by simp),rfl,b7 rfl (by congr 1),trivial⟩ ?_;refine ae.trans (ae.re (L:=Bb ⟨true,sup⟩::Sl.Own 263 13 (.slice g (l.length+1) f) (l.length+1) (eJ l++cO.cells ⟨true,sup⟩)::cG Bb l::al b o::R)) ?_;rw[V ⟨true,sup⟩ (g,f)];exact mA
    ·
     have A:=dx C;clear C;replace c:=c zO;refine w ?_;refine VO.re 58 (.agg (cO.cells eL).toArray) rfl rfl ?_;refine zq ?_;refine ay.buildSlice (cs:=cO.cells eL) st_191 rfl rfl (by simp[Value.cells]) (lj _) (by decide) rfl ?_;intro nc;refine zq ?_;refine ay.cg st_191 rfl rfl zh zm rfl (iW _) (by simp only[maxLen];omega) zO rfl ?_;intro g f;refine w ?_;refine VE.round (i+1,⟨l++[eL],(g,f),o⟩) (k eL o (vH c) u) (by dsimp only;omega) ⟨rfl,b7 rfl (by simp),rfl,b7 rfl (by congr 1),trivial⟩ ?_;refine ae.trans (ae.re (L:=Sl.Own 263 13 (.slice g (l.length+1) f) (l.length+1) (eJ l++eL.cells)::cG Bb l::al b o::R)) ?_;rw[V eL (g,f)];exact λw E=>mA (b:=eL) w (E.aZ 96 1)
  ·
   dsimp only[sn];rw[hd]at c⊢;replace c:=c λh=>he h.1;dsimp only;refine zw ?_;refine ay.aB sb_46 rfl ?_;intro n9;refine zl ((dk.hold st dk.au).cells) (cB _) ?_;refine zt (s:=Jq ⟨0,0,0⟩ (by decide)) (h:=?_);intro _ _;refine zr (s:=fK b o) (h:=?_);intro _ _;rw[u.len];refine w ?_;by_cases hj:i+1=n
   ·
    refine VC.cU rfl rfl (by rw[beq_iff_eq];omega) ?_;refine w ?_;refine VO.gF rfl rfl rfl (beq_eq_false_iff_ne.2 he) ?_;refine w ?_;refine VO.re 58 (.agg (cO.cells eL).toArray) rfl rfl ?_;refine zq ?_;refine ay.buildSlice (cs:=cO.cells eL) st_191 rfl rfl (by simp[Value.cells]) (lj _) (by decide) rfl ?_;intro nc;refine zq ?_;refine ay.cg st_191 rfl rfl zh zm rfl (iW _) (by simp only[maxLen];omega) zO rfl ?_;intro g f;refine w ?_;refine VE.round (i+1,⟨l++[eL],(g,f),o⟩) (k eL o (vH c) u) (by dsimp only;omega) ⟨rfl,b7 rfl (by simp),rfl,b7 rfl (by congr 1),trivial⟩ ?_;refine ae.trans (ae.re (L:=Sl.Own 263 13 (.slice g (l.length+1) f) (l.length+1) (eJ l++eL.cells)::cG Bb l::al b o::R)) ?_;rw[V eL (g,f)];exact λw E=>mA (b:=eL) w (E.aZ 96 1)
   ·
    refine VC.aK rfl rfl (by rw[beq_eq_false_iff_ne];omega) ?_;refine w ?_;refine VO.gF rfl rfl rfl (beq_eq_false_iff_ne.2 he) ?_;refine w ?_;refine VO.re 58 (.agg (cO.cells eL).toArray) rfl rfl ?_;refine zq ?_;refine ay.buildSlice (cs:=cO.cells eL) st_191 rfl rfl (by simp[Value.cells]) (lj _) (by decide) rfl ?_;intro nc;refine zq ?_;refine ay.cg st_191 rfl rfl zh zm rfl (iW _) (by simp only[maxLen];omega) zO rfl ?_;intro g f;refine w ?_;refine VE.round (i+1,⟨l++[eL],(g,f),o⟩) (k eL o (vH c) u) (by dsimp only;omega) ⟨rfl,b7 rfl (by simp),rfl,b7 rfl (by congr 1),trivial⟩ ?_;refine ae.trans (ae.re (L:=Sl.Own 263 13 (.slice g (l.length+1) f) (l.length+1) (eJ l++eL.cells)::cG Bb l::al b o::R)) ?_;rw[V eL (g,f)];exact λw E=>mA (b:=eL) w (E.aZ 96 1)
 have av:i=n:=by have:=dx C;omega
 clear C;refine w ?_;exact VE.done ⟨l,x,D'⟩ rfl ⟨U,hl.trans av,F⟩ rfl ae.refl
structure Ql(l:List cO)(S:ai):Prop where
  len:4<=l.length/\l.length<=17
  mem:S.members=(l.length:Int)-1
  all:∀i (h:i<l.length),l[i].has=true/\l[i].s.bare={S with role:=(i:Int),so:=none,sc:=0}
  ok:∀i:Nat,i<l.length->ai.yD {S with role:=(i:Int)}
  one:∀i j (h:i<S.au.length)(h':j<S.au.length),S.au[i]≠1->S.au[j]≠1->i=j
theorem Hb{l:List cO}{safe:Nat}{st:List UInt8}:∀{n:Nat},(∀i j,i<n->j<n->za l safe st i->za l safe st j->i=j)->kr l safe st n<=1/\((∀i,i<n->¬za l safe st i)->kr l safe st n=0)
  |0,_=>⟨c7 _,λ_=>rfl⟩
  |n+1,h=>by
    obtain⟨d,b⟩:=Hb (n:=n) λi j c f=>h i j zO zO;unfold kr;by_cases a:za l safe st n
    · have e:=b λi c q=>by have:=h i n zO zO q a;omega
      rw[e,lam (show(kk st n != 1||!ql l safe st n)=true from a)]
      exact⟨eI _,λq=>lcs a (q n zO)⟩
    · rw[aE (show ¬(kk st n != 1||!ql l safe st n)=true from a)]
      exact⟨d,λq=>b λi c=>q i zO⟩
theorem N5{l:List cO}{S:ai}(h:Ql l S):∃v,fP l=(0,v)/\v.s.bare={S with role:=0,lost:=false,so:=none,sc:=0}/\v.st=S.au/\v.cur=S.dc/\v.jr=true:=by
  have K:=h.len;have P:∀{s:ai}{i:Nat},s.bare={S with role:=(i:Int),so:=none,sc:=0}->s={S with role:=(i:Int),so:=s.so,sc:=s.sc}:=λ{s i} e=>by
    obtain⟨⟩:=s;simp only[ai.mk.injEq]at e⊢;simp[e]
  have D:∀i (q:i<l.length),l[i].s={S with role:=(i:Int),so:=l[i].s.so,sc:=l[i].s.sc}:=λi q=>P (h.all i q).2;have t:∀i,i<l.length->cZ l i=true:=λi q=>by
    rw[wB l i q];refine⟨(h.all i q).1,?_,?_,?_⟩
    · rw[D i q];exact h.ok i q
    · rw[D i q];exact h.mem
    · rw[D i q]
  have g:∀i (q:i<l.length),iL l i={S with role:=(i:Int),so:=l[i].s.so,sc:=l[i].s.sc}:=λi q=>by rw[iM l i q];exact D i q
  have u:∀i,i<l.length->Oa l i=S.events:=λi q=>by unfold Oa;rw[fL q];dsimp only;rw[D i q]
  have L:∀s∈bY l l.length,∃i q,s=iL l i/\(q:i<l.length)=q:=λs I=>by
    obtain⟨j,a,b,c⟩:=mR l _ s I;exact⟨j,a,c.symm,rfl⟩
  have N:=AJ l l.length 0 zO (t 0 zO);have A:bY l l.length≠[]:=List.ne_nil_of_mem N;obtain⟨x,r,M⟩:=List.exists_cons_of_ne_nil A;obtain⟨j,z,ex,-⟩:=L x (by rw[M];exact .head _);have G:(bY l l.length).any (λs=>!s.rG ((bY l l.length).headD bO))=false:=by
    rw[List.any_eq_false];intro s I;obtain⟨i,y,es,-⟩:=L s I;rw[M,List.headD_cons,es,ex,g i y,g j z];simp[ai.rG]
  have Q:cx l=(0,iL l (l.length-1)):=lam (t _ zO);have E:∀i,i<=l.length->0<i->topN l i=S.events:=λi=>by
    induction i with
    |zero=>intro _ h;omega
    |succ k J=>
      intro R _;unfold topN;rw[lam (t k zO),u k zO];cases k with
      |zero=>unfold topN;omega
      |succ k=>rw[J zO zO];omega
  have C:=h.ok 0 zO;have H:=cI C.1.2.1;have T:S.au.length+1=l.length:=by have:=C.1.2.2.2.2;have:=h.mem;dsimp only at*;omega
  have n:∀m (q:m<S.au.length),kk S.au m=S.au[m]:=λm q=>by unfold kk;rw[List.getD_eq_getElem?_getD,fL q];rfl
  have d:∀m (q:m<S.au.length),S.au[m]≠2->ql l S.safe S.au m=true:=λm q p=>by
    unfold ql;rw[n m q,t m zO,u m zO,ky (by dsimp only at H;omega)];simp[p]
  have f:∀m,m<S.au.length->mF l S.safe S.au m=false:=λm q=>by
    unfold mF;rw[n m q];by_cases p:S.au[m]=2
    · simp[p]
    · rw[d m q p];simp
  have O:kr l S.safe S.au S.au.length<=1:=(Hb λi j y z a b=>by
    refine h.one i j y z (λq=>?_) (λq=>?_)
    · unfold za at a;rw[n i y,q,d i y (by rw[q];decide)]at a;simp at a
    · unfold za at b;rw[n j z,q,d j z (by rw[q];decide)]at b;simp at b).1
  have B:iH l S.safe S.au S.au.length=S.au:=by
    apply E6 (by simp);intro m U p;simp[iH,f m p]
  have o:∀m,m<=S.au.length->qF l S.safe S.au m=false:=λm=>by
    induction m with
    |zero=>intro _;rfl
    |succ k J=>intro R;unfold qF;rw[J zO,f k zO];rfl
  have F:=g (l.length-1) zO;refine⟨rS l (iL l (l.length-1)),?_,?_,?_,?_,?_⟩
  · unfold fP
    rw[aE zO,aE A,aE (by rw[G];simp),Q,aE (by simp),aE]
    rw[F];dsimp only;omega
  · unfold rS
    rw[F,t (l.length-1) zO,E l.length (eI _) zO]
    simp
  · unfold rS;rw[F];exact B
  · unfold rS;rw[F];dsimp only;rw[o _ (eI _)];rfl
  · exact t _ zO
theorem xW:∀{ps:List aj}(_:(ps.map aj.place).Nodup){p q:aj},p∈ps->q∈ps->p.place=q.place->p=q
  |[],_,p,q,b,_,_=>by cases b
  |a::r,h,p,q,b,c,e=>by
    rw[BI,List.nodup_cons]at h;cases b with
    |head=>cases c with
      |head=>rfl
      |tail _ c=>exact lcs (e▸List.mem_map_of_mem c) h.1
    |tail _ b=>cases c with
      |head=>exact lcs (e▸List.mem_map_of_mem b) h.1
      |tail _ c=>exact xW h.2 b c e
instance (r:Int)(K:List Pl)(k:Pl):Decidable (AZ r K k):=decidable_of_iff (k∈K/\base r K<=k.2/\∀x∈K,base r K<=x.2->¬mK x k) ⟨λh=>⟨h.1,h.2.1,h.2.2⟩,λh=>⟨h.mem,h.low,h.least⟩⟩
end Go.Proofs.YtldolcbbmnmjoaaGreat
namespace Go.Proofs.YtldolcbbmnmjoaaGreat
open Go.RowKit Go.Sl
theorem ur{s:List aj}{k:Pl}(h:k∉s.map aj.place):s.filter (λx=>decide (x.place≠k))=s:=List.filter_eq_self.2 λx a=>by
 simp only[decide_eq_true_eq];intro e;exact h (e▸List.mem_map_of_mem a)
theorem Kt{ps:List aj}{p:aj}(c:(ps.map aj.place).Nodup)(d:p∈ps):List.Perm ps (p::ps.filter λx=>x.place≠p.place):=by
 obtain⟨s,t,rfl⟩:=List.append_of_mem d;have b:(p.place::((s++t).map aj.place)).Nodup:=by
  have:=((xb (a:=p) (l₁:=s) (l₂:=t)).map aj.place).nodup c;rwa [BI]at this
 rw[List.nodup_cons,jv,l0]at b;rw[oS,List.filter_cons_of_neg (by simp),ur (λh=>b.1 (.inl h)),ur (λh=>b.1 (.inr h))];exact xb
theorem Take.perm{r:Int}{ps l a:List aj}{c:Int}(e:(ps.map aj.place).Nodup)(h:Take r ps l c a):List.Perm (l++a) ps:=by
  induction h with
  |nil=>exact .refl _
  |@snoc l c a p h f g b=>
    have d:(a.map aj.place).Nodup:=by
      have:=(b.symm.map aj.place).nodup e;rw[jv]at this;exact(List.nodup_append.1 this).2.1
    rw[lx];exact((Kt d f).symm.append_left l).trans b
end Go.Proofs.YtldolcbbmnmjoaaGreat
namespace Go.Proofs.YtldolcbbmnmjoaaGreat
open Go.RowKit Go.Sl
attribute [local irreducible] Sl.Own
abbrev TJ(P:aY):ai:={P.sup with role:=0,so:=none,sc:=0,lost:=false}
abbrev Q4(P:aY)(b:Nat)(so:Addr)(sc:Nat)(r w:Option Addr):aY:={P with b:=b,role:=0,lost:=false,so:=so,sc:=sc,r:=r,w:=w,ro:=false,xn:=true,Ik:=true}
structure QQ(P:aY)(n c0:Nat)(K:Kd)(kj:ak)(e base tl:Nat)(ls:List (List bK))(V:Nat->Nat->List UInt8):Prop where
  ok:P.ok
  nm:n=P.m+1
  ring:5<=P.ring/\P.ring<=2048
  ag:∀l:List cO,l.length=n->(∀i (h:i<l.length),∃kd,K i=some kd/\Il n i kd l[i])->Ql l (TJ P)
  bh:∀i,i<n->∃kd,K i=some kd/\0<kd.last.length
  mem:∀i,i<P.m->∃kd,K i=some kd/\1+P.s*P.c<=kd.last.length
  k:K P.m=some kj
  cache:kj.cache=[]
  rep:qt P.ring e base tl ls kj.last
  Qs:1<=base
  lO:e<=c0/\base+ls.length<=c0
  ev:P.ev<4611686018427387904
  inr:∀p∈ls.flatten,(0<=p.av/\p.av<P.m)/\(0<=p.row/\p.row<((P.s*P.c:Nat):Int))/\p.data.length=128
  mx:ls.length<=2048/\ls.flatten.length<=1023
  stay:vV K (bU P) P.m (P.s*P.c) ls V
  mu:∀k row,k<P.m->row<P.s*P.c->(V k row).length=128
  par:∀row,row<P.s*P.c->ia (λk=>V k row) P.m=dC
  one:∀i j (h:i<P.st.length)(h':j<P.st.length),P.st[i]≠1->P.st[j]≠1->i=j
  xn:∀b so sc r w,P.st.length<=sc->iS (Q4 P b so sc r w) K n
def S8(b:Nat)(D:aw)(v:bT):Option Nat->ab
  |none=>al b D
  |some w=>Sl.star [bz w b v,al b D]
abbrev jt(a:List bF):List aj:=a.flatMap (·.aA)
structure CH where
  a:Nat
  r:Nat
  w:Nat
  so:Addr
  sc:Nat
  t:iu
abbrev CH.X(P:aY)(b:Nat)(z:CH):aY:={Q4 P b z.so z.sc (ik z.r) (ik z.w)with ev:=P.ev+1,sf:=P.ev+1,Ik:=false}
structure KV(P:aY)(b n:Nat)(K:Kd)(V:Nat->Nat->List UInt8)(c0:Nat)(z:CH):Prop where
  ok:z.t.ok n z.w (bU P) V
  cap:P.st.length<=z.sc
  Y:z.t.Y.fix=⟨b,P.m,P.c,P.s,ik z.w,P.lazy,z.t.Y.fa,none,0,[],false⟩
  wl:z.t.Y.wl=[]
  sure:z.t.v.sure=true
  size:z.t.v.size=P.ring
  cy:z.t.x.cy=[]
  c:z.t.c<=c0+3000
  len:∀i kd,i≠P.m->K i=some kd->∃kd',z.t.K i=some kd'/\kd'.last.length=kd.last.length
  sr:∀i:Nat,i<=P.m->(i=P.m\/P.st.getD i 2≠2)->∃kd,z.t.K i=some kd/\Sr kd 0 (aY.bytesOf {z.X P b with sf:=P.sf} i)
theorem Jb{a:List bF}{ls:List (List bK)}(h:(jt a).map aj.D=ls.flatten)(k row:Nat):ob ls k row=cq (jt a).reverse k row:=by
 unfold ob cq;rw[<-h,<-List.map_reverse,List.find?_map,qY];rfl
theorem Ar:∀{ls:List (List bK)}{s:Nat}{b:List bF},b.map bF.T=se s ls->(jt b).map aj.D=ls.flatten
  |[],s,b,h=>by
    have:b=[]:=by cases b with|nil=>rfl|cons a r=>cases h
    subst this;rfl
  |l::r,s,[],h=>by cases h
  |l::r,s,t::b,h=>by
    injection h with c d;have e:t.aA.map aj.D=l:=JB Prod.snd c;show(t.aA++jt b).map aj.D=l++r.flatten;rw[jv,e,Ar d]
theorem Kr{k:ak}(b:List UInt8)(a:k.cache=[]):(kY b 2 k).last=k.last.set 0 b/\(kY b 2 k).cache=[]/\(kY b 2 k).failed=k.failed:=by
 show((k.write 0 b).settle λ_=>true).last=_/\((k.write 0 b).settle λ_=>true).cache=_/\((k.write 0 b).settle λ_=>true).failed=_;rw[fM];refine⟨?_,rfl,rfl⟩;show full k.last (k.cache++[(0,b)])=_;rw[a];rfl
theorem qt.TF{n e base c:Nat}{ls:List (List bK)}{L:qk}{b:List UInt8}(h:qt n e base c ls L)(d:b.length=128):qt n e base c ls (L.set 0 b):=by
 have a:sf (L.set 0 b)=sf L:=funext λi=>by unfold sf;rw[vD zO]
 exact⟨lB h.all d,h.bnd,by rw[Ub];exact h.len,by rw[vD zO];exact h.TS,h.lO,h.SF,by rw[a];exact h.uZ,by rw[a];exact h.Ts⟩
theorem DO{v:bT}{k:ak}{base:Nat}{x:fY}{b:List UInt8}(h:dt v k base x)(f:v.sure=true)(m:b.length=128):dt v (kY b 2 k) base x:=by
 obtain⟨p,n⟩:=h.sure f;obtain⟨c,a,j⟩:=Kr b n;have e:=(h.rep f).TF m;have d:sf (k.last.set 0 b)=sf k.last:=funext λi=>by unfold sf;rw[vD zO]
 refine⟨h.MM,by rw[j];exact h.live,h.used,h.next,KX.nil a (.inr (by rw[c];exact e)),by rw[c,a];exact e,h.Uv,λ_=>⟨p,a⟩,by rw[a];exact c7 _,h.MN,λl o=>?_⟩;obtain⟨g,a2,a3,a4,a5⟩:=h.RG l o;exact⟨g,a2,a3,a4,by rw[c,d];exact a5⟩
theorem Sr.kY{k:ak}{b x:List UInt8}{a:Nat}(h:Sr k (a+1) x):Sr (kY b 2 k) (a+1) x:=(h.write λe=>lcs e zO).settle _
theorem Sr.SA{k:ak}(b:List UInt8)(h:0<k.last.length):Sr (Go.Proofs.YtldolcbbmnmjoaaGreat.kY b 2 k) 0 b:=by
 have:=Sr.vB (k:=k.write 0 b) (a:=0) h;rwa [lM,lam rfl]at this
theorem pL(X:aY)(K:Kd){i:Nat}(h:i=X.m\/(i<X.m/\X.st.getD i 2≠2)):jF X K i=(K i).map (kY (X.next.bytesOf i) 2):=by
 unfold jF mh;rcases h with h|h
 · rw[aE (by dsimp only;omega)];dsimp only;rw[lam h]
 · rw[lam h,aE (Nat.not_lt_zero i)];dsimp only;rw[aE zO]
theorem vY(X:aY)(K:Kd){i:Nat}(h:¬(i=X.m\/(i<X.m/\X.st.getD i 2≠2))):jF X K i=K i:=by
 unfold jF mh;rw[aE λq=>h (.inr q)];dsimp only;rw[aE λq=>h (.inl q)]
theorem De{P:aY}{k row:Nat}(h:¬gB (bU P) k row)(a:k<P.st.length):P.st.getD k 2≠2:=λe=>h (by
 have e':P.st[k]=2:=by rwa [List.getD_eq_getElem?_getD,fL a]at e
 unfold gB bU
 rw[List.getD_eq_getElem?_getD,law,fL a,e']
 exact⟨by show(0:Int)≠-1;decide,by show(0:Int)<=row;omega⟩)
theorem GM{l a:List aj}(h:∀p,p∈l↔p∈a)(n:(a.map aj.place).Nodup)(k row:Int):cq l k row=cq a k row:=by
  have g:∀{l:List aj},cq l k row=none↔∀x∈l,¬sH k row x=true:=λ{l}=>by unfold cq;rw[Option.map_eq_none_iff,Tm]
  cases q:cq a k row with
  |none=>rw[g]at q⊢;exact λx o=>q x ((h x).1 o)
  |some d=>
    obtain⟨p,i,e,f,m⟩:=jP q;cases c:cq l k row with
    |none=>rw[g]at c;exact lcs (by unfold sH;rw[decide_eq_true_iff];exact⟨e,f⟩) (c p ((h p).2 i))
    |some d2=>
      obtain⟨j,b,f1,f2,f3⟩:=jP c;have:j=p:=xW n ((h j).1 b) i (by unfold aj.place;rw[e,f,f1,f2]);rw[<-m,<-f3,this]
theorem Oz{P:aY}{b n c0 c a r w fa e base tl:Nat}{R:Addr}{N:Nat}{K z:Kd}{kj M m:ak}{ls:List (List bK)}{V:Nat->Nat->List UInt8}{v:bT}{Q:List aj}{S:aw}(h:QQ P n c0 K kj e base tl ls V)(ad:P.st.length<=N)
    (D:∀k row:Nat,cq Q.reverse k row=ob ls k row)(hw:fA (sI (bU P) Q) (jF (Q4 P b R N (ik r) (ik w)) K) z)
    (t:fO (bU P) P.m z P.m=some M)(aa:∀x,Sr M 0 x->Sr m 0 x)(hl:dt v m (base+ls.length) ⟨[],0,none⟩)(an:v.slot=(P.m:Int))(bb:v.epoch=e+1)(bf:v.next=base+ls.length)(au:v.sure=true)(av:v.size=P.ring)(hc:c0+1<=c)(U:c<=c0+3000)(hq:Bq S n (ez (fO (bU P) P.m z) P.m m) c):
    KV P b n K V c0 ⟨a,r,w,R,N,⟨⟨b,P.m,P.c,P.s,ik w,P.lazy,fa,none,0,[],false⟩,S,ez (fO (bU P) P.m z) P.m m,m,v,⟨[],0,none⟩,base+ls.length,c⟩⟩:=by
  obtain⟨Y,O⟩:∃Y,Y=Q4 P b R N (ik r) (ik w):=⟨_,rfl⟩;rw[<-O]at hw;have T:Y.m=P.m:=by rw[O]
  have J:Y.st=P.st:=by rw[O]
  have ba:=h.lO;have ag:=h.ok.st;have F:∀k row,¬gB (bU P) k row->¬gB (bU P) k 0:=λk row g q=>g ⟨q.1,by have:=q.2;omega⟩
  -- a disk's way
  have G:∀i u,K i=some u->∃f,z i=some f/\K9 (sI (bU P) Q) i (if i=P.m\/(i<P.m/\P.st.getD i 2≠2)then kY (Y.next.bytesOf i) 2 u else u) f:=λi u e=>by
    have hA:=pL Y K (i:=i);have hB:=vY Y K (i:=i);rw[T,J]at hA hB;split
    · rename_i q
      exact(hw i).2 _ (by rw[hA q,e];rfl)
    · rename_i q
      exact(hw i).2 _ (by rw[hB q,e])
  have H:∀i f,z i=some f->∃s,fO (bU P) P.m z i=some s/\s.last.length=f.last.length/\∀x,Sr f 0 x->Sr s 0 x:=λi f e=>by
    unfold fO;split
    · exact⟨_,by rw[e];rfl,dM _ _,λx q=>q.settle _⟩
    · exact⟨_,e,rfl,λx q=>q⟩
  have row:∀k row,k<P.m->row<P.s*P.c->¬gB (bU P) k row->∃f:ak,fO (bU P) P.m z k=some (f.settle λ_=>true)/\1+P.s*P.c<=f.last.length/\f.look (1+row)=V k row:=λk row t E B=>by
    obtain⟨u,e,y⟩:=h.mem k t;obtain⟨f,A,l⟩:=G k u e;rw[lam (.inr ⟨t,De B zO⟩)]at l;refine⟨f,?_,by rw[l.len,qh];exact y,?_⟩
    · unfold fO
      rw[lam ⟨t,F k row B⟩,A];rfl
    · have Z:sI (bU P) Q k (1+row)=ob ls k row:=by
        unfold sI;rw[Nat.add_sub_cancel_left,aE (by rintro(g|g);omega;exact B g)];exact D k row
      obtain⟨g1,g2⟩:=h.stay k row u t E B e
      rw[l.look,Z]
      cases q:ob ls k row with
      |some d=>exact g2 d q
      |none=>
        have:=g1 q
        rw[BG]at this⊢
        exact this.kY.look
  have hm:=h.ok.m;refine⟨⟨⟨⟨h.ok.m,h.ok.c,h.ok.s⟩,rfl,⟨by show(bU P).length=P.m;unfold bU;rw[ew];exact ag,λi j C hj q1 q2=>?_,h.mu,h.par,λk row d q=>(by cases q),λk o t E B=>?_,λp L=>(by cases L),c7 _⟩,λ_=>⟨rfl,rfl⟩,eZ _ _ _,an,hl,by have:=h.Qs;dsimp only;omega,by dsimp only;omega,by dsimp only;omega,c7 _,λp L=>(by cases L),λk o u t E B q=>⟨λ_=>?_,λd g=>by cases g⟩,λp L=>(TW L).elim⟩,hq⟩,ad,rfl,rfl,au,av,rfl,U,λi u C q=>?_,λi C W=>?_⟩
  · have key:∀i (C:i<P.m),(bU P).getD i (-1)≠-1->P.st[i]≠1:=λi C q g=>q (by
      unfold bU
      rw[List.getD_eq_getElem?_getD,law,fL zO]
      simp only[g]
      rfl)
    exact h.one i j (by have:i<P.m:=C;omega) (by have:j<P.m:=hj;omega) (key i C q1) (key j hj q2)
  · obtain⟨f,A,l4,g4⟩:=row k o t E B
    refine⟨_,(dH _ _ (Nat.ne_of_lt t)).trans A,by rw[dM];exact l4,λ_=>?_⟩
    rw[l9 (by have:o<P.s*P.c:=E;omega)]
    exact g4
  · obtain⟨f,A,l4,g4⟩:=row k o t E B
    cases((dH _ _ (Nat.ne_of_lt t)).trans A).symm.trans q
    rw[<-g4]
    exact Sr.vB (by have:o<P.s*P.c:=E;omega)
  · obtain⟨f,A,l⟩:=G i u q
    obtain⟨s,I,l5,_⟩:=H i f A
    refine⟨s,(dH _ _ C).trans I,?_⟩
    rw[l5,l.len]
    split
    · exact qh _ _ _
    · rfl
  · have X:i=P.m\/(i<P.m/\P.st.getD i 2≠2):=by rcases W with g|g;exact .inl g;exact(Nat.lt_or_eq_of_le C).elim (λx=>.inr ⟨x,g⟩) .inl
    obtain⟨u,e,y⟩:=h.bh i (by have:=h.nm;omega)
    obtain⟨f,A,l⟩:=G i u e
    rw[lam X]at l
    obtain⟨s,I,l5,z5⟩:=H i f A
    have hz:=z5 _ (l.sr 0 _ (λd g=>by unfold sI at g;rw[lam (.inl rfl)]at g;cases g) (Sr.SA _ y))
    have hb:Y.next.bytesOf i=aY.bytesOf {CH.X P b ⟨a,r,w,R,N,⟨⟨b,P.m,P.c,P.s,ik w,P.lazy,fa,none,0,[],false⟩,S,ez (fO (bU P) P.m z) P.m m,m,v,⟨[],0,none⟩,base+ls.length,c⟩⟩with sf:=P.sf} i:=by rw[O];rfl
    rw[<-hb]
    by_cases q:i=P.m
    · subst q
      rw[t]at I;cases I
      exact⟨m,eZ _ _ _,aa _ hz⟩
    · exact⟨s,(dH _ _ q).trans I,hz⟩
theorem Bc{W:World}{R:List ab}{D:aw}{K:Kd}{V:Nat->Nat->List UInt8}{n c0 e base tl:Nat}{kj:ak}{ls:List (List bK)}{P:aY}(b:Nat)(h:QQ P n c0 K kj e base tl ls V)(hq:Bq D n K c0)(iq:c0<=900000):
  aq W Tryz.prog 70 [ip b] (al b D::R) (β:=CH) (KV P b n K V c0) (λz=>.tuple #[ip z.a,i6 0]) (λz=>Row z.a 94 (z.X P b).cells::dz (z.X P b)::sF z.t z.r z.w (bU P) R):=by
 have hV:=h.ok.m;have hn:=h.nm;refine aq.oL Tryz.func70 Tryz.ntmps70 rfl rfl ?_;refine wr ?_;refine zq ?_;refine ay.alloc (z:=(i6 0)) (λw=>by simp) rfl rfl ?_;intro ne;refine wr ?_;refine zq ?_;refine zd rfl rfl (fK b D) ?_;intro _ _;rw[hq.len];refine wr ?_;refine VR.aK rfl rfl (gx (by omega)) ?_;refine wr ?_;refine zq ?_;refine zd rfl rfl (Fo (R:=Row ne 40 [i6 0]::R) b hq (by omega) h.bh) ?_;rintro⟨l,x,D1⟩ ⟨aa,hl,hb⟩;dsimp only at aa hl hb;refine wr ?_;refine VO.bH (λw hw=>hw.bn (.head _)) ?_;intro hM;have cy:E9 W (y5 x l::cG Bb l::al b D1::Row ne 40 [i6 0]::R) x.1 l:=⟨aV.own (λu hu=>by obtain⟨b,_,h⟩:=Ai.1 hu;exact iW b u h) (.head _) (cW l λ_ _=>rfl) hM,λz hz=>aV.cG (.tail _ (.head _)) hz λR hR=>by
  obtain⟨i,hi,rfl⟩:=lax hz;obtain⟨_,_,q⟩:=hb i hi;exact aV.own (aQ _) hR (by simp) q.nil,λz hz=>by obtain⟨i,hi,rfl⟩:=lax hz;obtain⟨_,_,q⟩:=hb i hi;exact q.fit⟩
 have et:=IS (W:=W) (R:=y5 x l::cG Bb l::al b D1::Row ne 40 [i6 0]::R) (cap:=x.2) (by omega) cy;obtain⟨v,hh,G,au,eY,hj⟩:=N5 (h.ag l hl hb);rw[hh]at et;refine zq ?_;refine zd rfl rfl (et) ?_;rintro⟨vo,vc⟩-;refine wr ?_;refine zq ?_;refine ay.aB sb_195 rfl ?_;intro nv;refine wr ?_;refine zq ?_;refine ay.gL (vs:=[i8 v.s.id,i8 v.s.events,i8 v.s.safe,ii v.s.role,ii v.s.members,ii v.s.chunk,ii v.s.bG,ii v.s.ring,.bool v.s.lazy,.bool v.s.lost,.slice vo v.st.length vc,ii v.cur,.bool v.ch,.bool v.jr]) ah rfl rfl rfl rfl (by simp[Value.oneCell']) zh (by simp) ?_;refine VO.bH (p:=vo=none->v.st.length=0) (λw hw=>hw.bn (.tail _ (.head _))) ?_;intro hK;have ji:v.st.length=P.m:=by rw[au];exact h.ok.st
 obtain⟨so,rfl⟩:∃y,vo=some y:=by cases vo with|none=>have:=hK rfl;omega|some y=>exact⟨y,rfl⟩
 refine VO.bH (p:=v.st.length<=vc) (λw hw=>hw.jd (.tail _ (.head _))) ?_;intro fb;obtain⟨X,E⟩:∃X,X=Q4 P b so vc none none:=⟨_,rfl⟩;have ck:[Value.int .u64 v.s.id,i8 v.s.events,i8 v.s.safe,ii v.s.role,ii v.s.members,ii v.s.chunk,ii v.s.bG,ii v.s.ring,.bool v.s.lazy,.bool v.s.lost,.slice (some so) v.st.length vc,ii v.cur,.bool v.ch,.bool v.jr]=X.sup.cells++[.bool v.ch,.bool true]:=by
  obtain⟨⟨a1,a2,a3,a4,a5,a6,a7,a8,a9,hO,hP,a12,hQ,hS⟩,st,cur,ch,jr⟩:=v;simp only[ai.bare,ai.mk.injEq]at G;dsimp only at au eY hj⊢;rw[E,au,eY,hj,G.1,G.2.1,G.2.2.1,G.2.2.2.1,G.2.2.2.2.1,G.2.2.2.2.2.1,G.2.2.2.2.2.2.1,G.2.2.2.2.2.2.2.1,G.2.2.2.2.2.2.2.2.1,G.2.2.2.2.2.2.2.2.2.1];rfl
 have hX:X.ok:=by rw[E];exact⟨h.ok.m,h.ok.c,h.ok.s,h.ok.st,h.ok.u4,h.ok.cur⟩
 refine VO.aR (H':=Row nv 195 (X.sup.cells++[.bool v.ch,.bool true])::dz X::al b D1::Row ne 40 [i6 0]::R) ?_ ?_
 · rw[<-ck,E,show dz (Q4 P b so vc none none)=Sl.Own 96 1 (.slice (some so) v.st.length vc) v.st.length (bytes v.st)by rw[au]];exact ae.re
 refine wr ?_;refine VO.pure rfl rfl (af.build sb_94 rfl (show aC _ _ _=some X.cells by subst E;simp[aC,bR,Value.cells])) rfl ?_;refine zq ?_;refine ay.box (cs:=X.cells) rfl (by simp[Value.cells]) rfl ?_;intro a;refine wr ?_;refine zq ?_;refine ay.alloc (z:=(.pointer none)) (λw=>by simp) rfl rfl ?_;intro I;refine wr ?_;have hE:X.ro=false:=by rw[E]
 have ih:X.b=b:=by rw[E]
 have bm:X.m=P.m:=by rw[E]
 have hf:X.c=P.c:=by rw[E]
 have hg:X.s=P.s:=by rw[E]
 have bo:X.ring=P.ring:=by rw[E]
 refine VR.aK rfl rfl (hE) ?_;refine VR.aR (H':=Row a 94 X.cells::Row I 70 [ip a]::dz X::al b D1::Row ne 40 [i6 0]::R) ae.re ?_;refine wr ?_;refine VR.plain (VC.qO [2,8,13,14] 16 13 [0,1,3,4,5,6,7,2,8,9,10,11,12,13,14,15,16] (Row a 94 X.cells::Row I 70 [ip a]::dz X::R) 7 (λb=>Row b 92 [.pointer none]) (λb=>ip b) rfl (by kernel_rfl) (by kernel_rfl) ae.re ?_);(repeat (apply VX.take rfl rfl rfl rfl;exact zp;rfl;rfl;rfl));refine VX.uk (K:=Row a 94 X.cells) (S:=λ_:Unit=>[Row a 94 X.cells]) (H':=Row I 70 [ip a]::dz X::al b D1::Row ne 40 [i6 0]::R) rfl rfl rfl rfl rfl rfl (λ_ _=>by simp) (λR=>jX a X) (by(repeat exact .refl)) rfl (dG.Fi (z:= .pointer none) (λw=>by simp) rfl rfl) ae.re (λ_ _=>ae.re) rfl rfl rfl ?_;intro _ _;have bh:=λR=>GN (W:=W) (R:=R) (D:=D1) b (X.m:Int) (X.ring:Int);obtain⟨O,e2,p2,f2⟩:=Nb (aa.pw h.k) aa.c8 h.rep h.cache;have eS:Bq O n K c0:=by have:=aa.Pa p2 (aa.is _ _ h.k).2.2 (aa.Rw h.k) (eI _) f2;rwa [pz h.k]at this
 obtain⟨vj,B⟩:∃vj:bT,vj=⟨(P.m:Int),e,P.ring,tl,bu ls,base+ls.length,true,none,0⟩:=⟨_,rfl⟩;rw[<-B,<-bm,<-bo]at e2;rw[e2]at bh
 refine VX.uk (K:=al b D1) (S:=λy:S3=>[iD y.x y.ts,kG y.ts,S8 b O vj y.w]) (H':=Row a 94 X.cells::Row I 70 [ip a]::dz X::Row ne 40 [i6 0]::R) rfl rfl rfl rfl rfl rfl (λ_ _=>by simp)
  (λR=>aq.mono (bh R) (λy=>y) (λ_ h=>h) (λ_ _=>rfl) (λy _=>by
   obtain⟨w,x,o⟩:=y;cases w with
   |none=>exact ae.refl
   |some w=>exact λw' h=>((show Holds W (bz w b vj::al b O::iD x o::kG o::R) w' from(ae.re:ae W _ _) w' h).nest (L:=[bz w b vj,al b O])).perm (xb (l₁:=[iD x o,kG o])).symm)) (by(repeat first|exact .refl|(apply aP.cons;focus repeat first|exact .head|apply nW.tail)|exact .nil|apply aP.drop)) rfl (dG.Fi (z:= .pointer none) (λw=>by simp) rfl rfl) ae.re (λy _=>ae.re) rfl rfl rfl ?_
 rintro⟨w,y,o⟩ ⟨hw,an⟩;dsimp only at hw an;obtain⟨w,rfl⟩:∃x,w=some x:=Option.isSome_iff_exists.1 hw;(repeat (apply VX.take rfl rfl rfl rfl;exact zp;rfl;rfl;rfl));refine VX.float rfl rfl (dG.Fi (z:= .pointer none) (λw=>by simp) rfl rfl) ae.re ?_;intro N;refine wr ?_;refine VO.aR (H':=bz w b vj::al b O::iD y o::kG o::Row N 92 [ip w]::Row a 94 X.cells::Row I 70 [ip a]::dz X::Row ne 40 [i6 0]::R) (ae.trans (ae.re (L:=S8 b O vj (some w)::iD y o::kG o::Row N 92 [ip w]::Row a 94 X.cells::Row I 70 [ip a]::dz X::Row ne 40 [i6 0]::R)) (λw' h=>h.join)) ?_;refine VO.bH (p:=y.1=none->o.length=0) (λw' h=>h.bn (.tail _ (.tail _ (.head _)))) ?_;intro ea;refine VO.bH (p:=∀t∈o,t.ok) (λw' h=>kG.bH h.tail.tail.tail) ?_;intro cb;have an:o.map bF.T=se base ls:=an;have Q:=Ar an;have hI:o.length<=2048:=by have:=JB List.length an;rw[ew]at this;rw[this,oZ];exact h.mx.1
 have ba:(jt o).length<=1023:=by rw[<-ew (f:=aj.D),Q];exact h.mx.2
 have eu:∀p∈jt o,(0<=p.av/\p.av<P.m)/\(0<=p.row/\p.row<((P.s*P.c:Nat):Int))/\p.d.data.length=128:=λp hp=>h.inr p.D (by rw[<-Q];exact List.mem_map_of_mem hp);refine zq ?_;refine zy rfl rfl (xi (r:=0) (by decide)) ?_;intro up _;refine wr ?_;have cr:∀H:List ab,iD y o∈H->kG o∈H->A8 W H y.1 o:=λH m1 m2=>A8.own ea cb m1 m2;have h4:P.s*P.c<=256*16:=RC h.ok.s.2 h.ok.c.2;obtain⟨Z0,ep⟩:∃Z:eA,Z=⟨b,P.m,P.c,P.s,ik w,P.lazy,0,none,0,[],false⟩:=⟨_,rfl⟩
 refine VR.loop (α:=Nat×List aj) (λq=>q.1<=o.length/\q.2.length<=(jt (o.take q.1)).length/\(∀p∈q.2,p.Of Z0)/\(q.2.map aj.place).Nodup/\∀k row,cq q.2 k row=cq (jt (o.take q.1)).reverse k row) (λq=>dT up 0 q.2::bz w b vj::al b O::iD y o::kG o::Row N 92 [ip w]::Row a 94 X.cells::Row I 70 [ip a]::dz X::Row ne 40 [i6 0]::R)
  (λq=>[(0,ip b),(2,.pointer none),(3,ip ne),(6,ip I),(7,ip N),(9,ip up),(100,.slice y.1 o.length y.2),(101,ii o.length),(102,ii q.1)]) (λq=>o.length-q.1) rfl (0,[]) ⟨c7 _,c7 _,λp h=>lcs h TW,List.nodup_nil,λ_ _=>rfl⟩ ae.re ⟨rfl,rfl,rfl,rfl,rfl,rfl,rfl,rfl,rfl,trivial⟩ ?_
 rintro⟨i,ps⟩ ⟨hi,U,A,M,C⟩;dsimp only at hi U A M C;refine wr ?_;(refine VR.cond rfl rfl ?_ ?_<;>intro hc)
 ·
  have bf:i<o.length:=by have:=cI hc;omega
  clear hc;obtain⟨ta,bk⟩:∃x,y.1=some x:=by cases h:y.1 with|none=>have:=ea h;omega|some x=>exact⟨x,rfl⟩
  have ec:=λH m1 m2=>(cr H m1 m2).gz;rw[bk]at ec;refine VR.re 100 (.slice (some ta) o.length y.2) rfl (by rw[bk]) ?_;refine wr ?_;refine VO.pure rfl rfl (af.gY ah rfl rfl (ec _ zm zm) (dW o i bf (λ_ _=>rfl)) rfl) rfl ?_;refine wr ?_;refine zq ?_;refine ay.aB sb_205 rfl ?_;intro n12;refine wr ?_;refine zq ?_;refine ay.gL (vs:=o[i].cells) ah rfl rfl rfl rfl (vO _) zh (by simp) ?_;refine wr ?_;have dr:∀H:List ab,iD y o∈H->kG o∈H->bq W H o[i].ao o[i].aA:=λH m1 m2=>(cr H m1 m2).each _ (fF bf);have eb:∀p∈o[i].aA,p∈jt o:=λp hp=>Ai.2 ⟨_,fF bf,hp⟩;have bs:jt (o.take (i+1))=jt (o.take i)++o[i].aA:=by rw[nZ bf];unfold jt;rw[E5];simp
  have bx:(jt (o.take (i+1))).length<=1023:=by
   have e:jt o=jt (o.take (i+1))++jt (o.drop (i+1)):=by unfold jt;rw[<-E5,QB]
   rw[e,c9]at ba;omega
  rw[bs,c9]at bx;obtain⟨F0,ga⟩:∃F,jt (o.take i)=F:=⟨_,rfl⟩;rw[ga]at bx U C bs;generalize o[i]=t at*
  refine VR.loop (α:=Nat×List aj) (λq=>q.1<=t.aA.length/\q.2.length<=F0.length+q.1/\(∀p∈q.2,p.Of Z0)/\(q.2.map aj.place).Nodup/\∀k row,cq q.2 k row=cq (F0++t.aA.take q.1).reverse k row) (λq=>dT up 0 q.2::bz w b vj::al b O::iD y o::kG o::Row N 92 [ip w]::Row a 94 X.cells::Row I 70 [ip a]::dz X::Row ne 40 [i6 0]::R)
   (λq=>[(0,ip b),(2,.pointer none),(3,ip ne),(6,ip I),(7,ip N),(9,ip up),(100,.slice y.1 o.length y.2),(101,ii o.length),(102,ii i),(107,.slice t.ao t.aA.length t.cap),(108,ii t.aA.length),(109,ii q.1)]) (λq=>t.aA.length-q.1) rfl (0,ps) ⟨c7 _,U,A,M,λk row=>by rw[DK,mn];exact C k row⟩ ae.re ⟨rfl,rfl,rfl,rfl,rfl,rfl,b7 rfl (by rw[bk]),rfl,rfl,rfl,rfl,rfl,trivial⟩ ?_
  clear U A M C;rintro⟨j,ps⟩ ⟨hs,U,A,M,C⟩;dsimp only at hs U A M C;refine wr ?_;(refine VR.cond rfl rfl ?_ ?_<;>intro hc)
  ·
   have bb:j<t.aA.length:=by have:=cI hc;omega
   clear hc;have ca:=λH m1 m2=>(dr H m1 m2).gz;obtain⟨tb,dV⟩:∃x,t.ao=some x:=by cases h:t.ao with|none=>(have:=(dr [iD y o,kG o] (by simp) (by simp)).gz.nil h;omega)|some x=>exact⟨x,rfl⟩
   rw[dV]at ca;refine VR.re 107 (.slice (some tb) t.aA.length t.cap) rfl (by rw[dV]) ?_;refine wr ?_;refine VO.pure rfl rfl (af.gY ah rfl rfl (ca _ zm zm) (ke t.aA j bb) rfl) rfl ?_;refine wr ?_;refine zq ?_;refine ay.aB sb_207 rfl ?_;intro n14;refine wr ?_;refine zq ?_;refine ay.gL (vs:=t.aA[j].cells) ah rfl rfl rfl rfl (dI _) zh (by simp) ?_;refine wr ?_;obtain⟨g1,g2,g3⟩:=eu _ (eb _ (fF bb));have hG:F0++t.aA.take (j+1)=(F0++t.aA.take j)++[t.aA[j]]:=by rw[nZ bb,lx]
   have hA:∀H:List ab,iD y o∈H->kG o∈H->aV W H 1 t.aA[j].d.ao t.aA[j].d.data.length (bytes t.aA[j].d.data):=λH m1 m2=>(dr H m1 m2).each _ (fF bb);generalize t.aA[j]=p at*;refine VR.drawn [9] 16 [0,1,2,3,4,5,6,7,8,9,10,11,12,13,14,15,16] _ rfl (by kernel_rfl) (by kernel_rfl) ae.re ?_;refine wr ?_;refine zq ?_;refine zy rfl rfl (FM hX.m hX.c hX.s p.av p.row (by omega)) ?_;rintro⟨gi,gb⟩-;refine⟨ae.re,?_⟩;refine wr ?_;refine VR.aK rfl rfl (by rw[lam ⟨by rw[bm];exact g1,by rw[hg,hf];exact g2⟩];rfl) ?_;refine wr ?_;have eR:=xj (W:=W) (R:=Row n14 207 p.cells::bz w b vj::al b O::iD y o::kG o::Row N 92 [ip w]::Row a 94 X.cells::Row I 70 [ip a]::dz X::Row ne 40 [i6 0]::R) (b:=up) (r:=0) (ps:=ps) (p:=p) ⟨by omega,by omega,g3⟩ (hA _ zm zm) (by omega);refine zq ?_;refine zd rfl rfl (eR) ?_;intro z _;refine wr ?_;refine VF.round (j+1,qn ps ⟨p.av,p.row,⟨z.1,z.2,p.d.data⟩⟩) ⟨bb,?_,λq hB=>?_,?_,λk row=>?_⟩ (by dsimp only;omega) ⟨rfl,rfl,rfl,rfl,rfl,rfl,b7 rfl (by rw[bk]),rfl,rfl,b7 rfl (by rw[dV]),rfl,b7 rfl (by congr 1),trivial⟩ ae.re
   ·
    dsimp only;have:=uy (λx:aj=>decide (x.place≠aj.place ⟨p.av,p.row,⟨z.1,z.2,p.d.data⟩⟩)) ps;unfold qn;rw[c9,ie];omega
   ·
    rcases l0.1 hB with h|h
    · exact A q (KO.1 h).1
    · rw[ju.1 h,ep];exact⟨g1,g2,g3⟩
   ·
    dsimp only;rw[tA];refine List.nodup_append.2 ⟨M.filter _,by simp,λa ha b hb e=>?_⟩;rw[ju.1 hb]at e;have:=(KO.1 ha).2;simp[e]at this
   ·
    dsimp only;rw[AN,hG,AO,C]
  have ht:j=t.aA.length:=by have:=dx hc;omega
  clear hc;rw[ht,SP]at C;refine wr ?_;exact VF.round (i+1,ps) ⟨bf,by dsimp only;rw[bs,c9];omega,A,M,λk row=>by dsimp only;rw[bs];exact C k row⟩ (by dsimp only;omega) ⟨rfl,rfl,rfl,rfl,rfl,rfl,b7 rfl (by rw[bk]),rfl,b7 rfl (by congr 1),trivial⟩ ae.re
 have ho:i=o.length:=by have:=dx hc;omega
 clear hc;rw[ho,SP]at U C;have cY:∀k row:Nat,cq ps k row=ob ls k row:=λk row=>by rw[C,Jb Q]
 have iZ:ps.length<=1023:=by omega
 clear C cr eu ea cb hI ba Q an;refine VR.aR (H':=dT up 0 ps::bz w b vj::al b O::Row N 92 [ip w]::Row a 94 X.cells::Row I 70 [ip a]::dz X::Row ne 40 [i6 0]::R) ae.re ?_;refine wr ?_;obtain⟨Xw,J⟩:∃Z:aY,Z={X with w:=ik w}:=⟨_,rfl⟩;refine VR.aR (H':=Row a 94 Xw.cells::al b O::dT up 0 ps::bz w b vj::Row N 92 [ip w]::Row I 70 [ip a]::dz X::Row ne 40 [i6 0]::R) (by rw[J];exact ae.re) ?_;refine VR.plain (VC.Bm (Mz (Row a 94 Xw.cells) (al b O::dT up 0 ps::bz w b vj::Row N 92 [ip w]::Row I 70 [ip a]::dz X::R)) [13,19,20] [(19,1),(20,1)] [(6,0),(12,0)] 1 [0,1,2,3,4,5,6,7,8,9,10,11,12,13,14,15,16,17,18,19,20] rfl (by kernel_rfl) (by kernel_rfl) ae.re (tj _ _) ?_);(iterate 6 (apply VL.take rfl rfl rfl 1 rfl;exact zp;rfl));apply VL.take rfl rfl rfl 0 rfl;exact zp;rfl;(iterate 5 (apply VL.take rfl rfl rfl 1 rfl;exact zp;rfl));apply VL.take rfl rfl rfl 0 rfl;exact zp;rfl;refine VL.yC rfl rfl rfl 0 rfl ?_;refine zd rfl rfl (HZ (R:=Row a 94 Xw.cells::dT up 0 ps::bz w b vj::Row N 92 [ip w]::Row I 70 [ip a]::dz X::Row ne 40 [i6 0]::R) (D:=O) b (m:=Xw.m) (c:=Xw.c) (s:=Xw.s) (by rw[J];exact hX.m) (by rw[J];exact hX.c) (by rw[J];exact hX.s) (eS.len.trans (by rw[J,bm];exact hn)) (ik w) Xw.lazy) ?_;rintro⟨r,fa⟩-;refine⟨ae.re,?_⟩;(iterate 5 (apply VL.take rfl rfl rfl 1 rfl;exact zp;rfl));refine VL.yC rfl rfl rfl 1 rfl ?_;apply ay.st ah rfl rfl rfl rfl (by(repeat first|exact .head|apply eQ.tail);done) (by(simp;done));refine⟨ae.re,?_⟩;refine VL.yC rfl rfl rfl 1 rfl ?_;apply ay.st ah rfl rfl rfl rfl (by(repeat first|exact .head|apply eQ.tail);done) (by(simp;done));refine⟨ae.re,?_⟩;refine VL.nil ?_;obtain⟨Y,hY⟩:∃Y:aY,Y=Q4 P b so vc (ik r) (ik w):=⟨_,rfl⟩;obtain⟨Z,hZ⟩:∃Z:eA,Z=⟨b,P.m,P.c,P.s,ik w,P.lazy,fa,none,0,[],false⟩:=⟨_,rfl⟩;refine VE.aR (H':=Row a 94 Y.cells::de r Z (List.replicate X.m (-1)) (al b O::dT up 0 ps::bz w b vj::Row N 92 [ip w]::Row I 70 [ip a]::dz Y::Row ne 40 [i6 0]::R)) (by rw[hY,hZ,J,E];exact ae.re) ?_;have ef:Y.ev=P.ev:=by rw[hY]
 have hN:=h.ev;refine wr ?_;refine VR.aK rfl rfl (gx (by rw[ef];omega)) ?_;have ej:Y.ok:=by rw[hY];exact⟨h.ok.m,h.ok.c,h.ok.s,h.ok.st,h.ok.u4,h.ok.cur⟩
 have ad:Z.ok:=by rw[hZ];exact⟨h.ok.m,h.ok.c,h.ok.s⟩
 have ek:Y.ro=false:=by rw[hY]
 have ct:Y.r=ik r:=by rw[hY]
 have ee:Y.b=b:=by rw[hY]
 have er:Z.b=b:=by rw[hZ]
 have av:Y.m=P.m:=by rw[hY]
 have cw:Z.m=Y.m:=by rw[hZ,hY]
 have cS:bU Y=bU P:=by rw[hY];rfl
 have hL:iS Y K n:=by rw[hY];exact h.xn b so vc _ _ (by rw[<-show v.st=P.st from au];exact fb)
 have Q:(bU Y).length=Y.m:=by rw[cS,av];unfold bU;rw[ew];exact h.ok.st
 have A:∀p∈ps,p.Of Z:=λp hp=>by rw[hZ];rw[ep]at A;exact⟨(A p hp).m,(A p hp).r,(A p hp).n⟩
 refine wr ?_;refine VR.iF rfl rfl rfl rfl ?_;refine wr ?_;refine zq ?_;refine zd rfl rfl (rH a r Y ej Z ct cw (List.replicate X.m (-1)) (by rw[j0,av,bm])) ?_;intro _ _;refine wr ?_;refine zq ?_;refine zd rfl rfl (F1 (R:=Row a 94 Y.cells::de r Z (bU Y) (al b O::Row I 70 [ip a]::bz w b vj::Row N 92 [ip w]::dz Y::Row ne 40 [i6 0]::R)) (b:=up) (r:=0) (ps:=ps) (by omega)) ?_;rintro⟨⟨po,pc⟩,l2,r2⟩ hT;dsimp only at hT;have iE:l2.length<=1023:=by have:=hT.length;omega
 have dc:=hT.perm M;rw[mn]at dc;have bG:∀p∈l2,p.Of Z:=λp hp=>A p (dc.subset hp);have br:∀k row:Nat,cq l2.reverse k row=ob ls k row:=λk row=>(GM (λp=>List.mem_reverse.trans dc.mem_iff) M k row).trans (cY k row);refine wr ?_;refine zq ?_;refine ay.alloc (z:=(.slice none 0 0)) (λw=>by simp) rfl rfl ?_;intro n18;refine wr ?_;refine VO.bH (p:=po=none->l2.length=0) (λw' h=>h.bn (.tail _ (.head _))) ?_;intro hy;refine VO.bH (p:=∀p∈l2,p.d.ok) (λw' h=>bX.bH h.tail.tail) ?_;intro eG;have bw:=lS (W:=W) (R:=Row I 70 [ip a]::Row n18 126 [.slice po l2.length pc]::bL (po,pc) l2::bX l2::bz w b vj::Row N 92 [ip w]::Row ne 40 [i6 0]::R) a r Y Z hL ek ct cw (bU Y) Q eS (by omega);rw[ee]at bw;refine zq ?_;refine zd rfl rfl (bw) ?_;intro D3 hC;obtain⟨T,ag⟩:∃T,T=Y.told:=⟨_,rfl⟩;have ed:T.r=ik r:=by rw[ag];exact ct
 have gD:T.b=b:=by rw[ag];exact ee
 have ic:T.m=P.m:=by rw[ag];exact av
 rw[<-ag,cS];have bp:Z.m=P.m/\Z.s=P.s/\Z.c=P.c:=by rw[hZ];exact⟨rfl,rfl,rfl⟩
 have cc:∀k row,k<Z.m->row<Z.s*Z.c->¬gB (bU P) k row->∃kd,jF Y K k=some kd/\1+Z.s*Z.c<=kd.last.length:=λk row hk hr hd=>by
  rw[bp.1]at hk;rw[bp.2.1,bp.2.2];obtain⟨kd,e,l⟩:=h.mem k hk;rw[pL Y K (.inr ⟨by rw[av];exact hk,by rw[show Y.st=P.st by rw[hY]];exact De hd (by rw[h.ok.st];exact hk)⟩),e];exact⟨_,rfl,by rw[qh];exact l⟩
 have bE:(bU P).length=Z.m:=by rw[<-cS,Q,cw]
 have h1:=Ox (W:=W) (R:=bL (po,pc) l2::bX l2::bz w b vj::Row N 92 [ip w]::dz Y::Row ne 40 [i6 0]::R) (cap:=pc) I n18 a r T ed Z ad (bU P) bE cc hC l2 (bq.own (x:=(po,pc)) hy eG (.head _) (.tail _ (.head _))) bG (by omega) (by omega);rw[er]at h1;refine wr ?_;refine VO.pure rfl rfl (af.bB rfl) rfl ?_;refine wr ?_;refine zq ?_;refine zd rfl rfl (BS a 0 (g:=132) (bnd:=#[]) (cap:=#[ip I,ip n18]) (λ_ _=>by simp) h1) ?_;rintro⟨D4,K4⟩ ⟨eW,bt⟩;dsimp only at eW bt;have fs:∀k,k<Z.m->¬gB (bU P) k 0->(K4 k).isSome=true:=λk hk hd=>by
  obtain⟨kd,e,_⟩:=cc k 0 hk (Nat.mul_pos ad.s.1 ad.c.1) hd;obtain⟨jn,e4,_⟩:=(bt k).2 kd e;rw[e4];rfl
 have h2:=uF (W:=W) (R:=dz Y::Row a 94 T.cells::Row I 70 [ip a]::bz w b vj::Row N 92 [ip w]::Row ne 40 [i6 0]::R) r Z ad (bU P) bE fs eW;rw[er,bp.1]at h2;refine wr ?_;refine VR.drawn [] 6 [0,1,2,3,4,5,6] _ rfl (by kernel_rfl) (by kernel_rfl) ae.re ?_;refine wr ?_;refine VD.re 179 (ip r) rfl (by rw[ed]) ?_;refine VD.take rfl rfl rfl (af.cm rfl) rfl ?_;refine wr ?_;refine zq ?_;refine zd rfl rfl (BS a 0 (g:=134) (bnd:=#[ip r]) (cap:=#[]) (λ_ _=>by simp) h2) ?_;intro D5 eX;refine wr ?_;refine VO.pure rfl rfl (af.bB rfl) rfl ?_;refine wr ?_;have da:=DO (b:=Y.next.bytesOf P.m) (Live.open (s:=P.m) h.rep h.cache (aa.is _ _ h.k).2.1) rfl (by have:=hL.len P.m (by omega);exact this);have fx:jF Y K P.m=some (kY (Y.next.bytesOf P.m) 2 kj):=by rw[pL Y K (.inl av.symm),h.k];rfl
 have hv:K4 P.m=some (kY (Y.next.bytesOf P.m) 2 kj):=by
  obtain⟨k4,e4,w4⟩:=(bt P.m).2 _ fx;rw[e4,w4.same λq=>?_];unfold sI;split
  · rfl
  ·
   unfold cq;rw[Option.map_eq_none_iff,Tm];intro x hx q;have:=(bG x (HH.1 hx)).m;unfold sH at q;rw[decide_eq_true_iff]at q;omega
 have ev:fO (bU P) P.m K4 P.m=some (kY (Y.next.bytesOf P.m) 2 kj):=by unfold fO;rw[aE (by omega)];exact hv
 rw[<-B]at da;have ix:=h.lO;have hb1:=h.Qs;obtain⟨D6,fg,e6,hD,eC,hF⟩:=DH (e:=vj.epoch+1) eX ev (by rw[B]) da (by rw[B]) (by rw[B];exact⟨by dsimp only;omega,by dsimp only;omega,by dsimp only;omega⟩);have h3:=Oy (W:=W) (R:=dz Y::de r Z (bU P) (Row ne 40 [i6 0]::R)) I N a w T vj (da.SJ (by rw[B];dsimp only;omega) (by rw[B];dsimp only;omega) hb1) eX.cap (by omega);rw[gD,e6]at h3;refine zq ?_;refine zd rfl rfl (BS a T.m (g:=135) (bnd:=#[]) (cap:=#[ip I,ip N]) (λ_ _=>by simp) h3) ?_;intro _ _;refine wr ?_;refine VF.aR (H':=Row ne 40 [i6 0]::Row a 94 (aY.cells {T with Ik:=false})::dz T::de r Z (bU P) (bz w b {vj with epoch:=vj.epoch+1,tail:=vj.head,used:=0,log:=none}::al b D6::R)) (by rw[ag];exact ae.re) ?_;refine VF.tg (.inl rfl) (λ_ _=>by simp) gp ⟨a,r,w,so,vc,⟨Z,D6,ez (fO (bU P) P.m K4) P.m fg,fg,{vj with epoch:=vj.epoch+1,tail:=vj.head,used:=0,log:=none},⟨[],0,none⟩,base+ls.length,c0+40+l2.length⟩⟩ rfl (.tmp rfl) (aL.leaf ah rfl rfl (.head _) rfl) ?_ rfl (by rw[ag,hY,hZ];exact ae.re);rw[hZ];refine Oz h (by rw[<-show v.st=P.st from au];exact fb) br (hY▸bt) ev hF (by rw[B]at eC⊢;exact eC) (by rw[B]) (by rw[B]) (by rw[B]) (by rw[B]) (by rw[B]) (by omega) (by omega) hD
end Go.Proofs.YtldolcbbmnmjoaaGreat
