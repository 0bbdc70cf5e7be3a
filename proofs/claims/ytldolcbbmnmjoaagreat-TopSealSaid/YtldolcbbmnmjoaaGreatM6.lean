import Derived.Test.YtldolcbbmnmjoaaGreatM5
import Derived.WalkKit
import Derived.ProofKit
import Derived.OpenShut
set_option maxRecDepth 8000
set_option maxHeartbeats 16000000
set_option linter.unusedVariables false
set_option linter.unusedSimpArgs false
set_option linter.unusedSectionVars false
set_option linter.defProp false
namespace Go.Proofs.YtldolcbbmnmjoaaGreat
open Go.RowKit Go.Sl
end Go.Proofs.YtldolcbbmnmjoaaGreat
namespace Go.Proofs.YtldolcbbmnmjoaaGreat
open Go.RowKit Go.Sl
attribute [local irreducible] Own
theorem Mo(a b:aM):a=b↔a.epoch=b.epoch/\a.seq=b.seq/\a.index=b.index/\a.count=b.count/\a.av=b.av/\a.row=b.row/\a.cw=b.cw/\a.sum=b.sum:=by cases a;cases b;simp
theorem LO(a b:bZ):a=b↔a.epoch=b.epoch/\a.seq=b.seq/\a.count=b.count/\a.sum=b.sum:=by cases a;cases b;simp
theorem LH(a b:bJ):a=b↔a.epoch=b.epoch/\a.seq=b.seq/\a.tail=b.tail:=by cases a;cases b;simp
instance:DecidableEq aM:=λa b=>decidable_of_iff _ (Mo a b).symm
instance:DecidableEq bZ:=λa b=>decidable_of_iff _ (LO a b).symm
instance:DecidableEq bJ:=λa b=>decidable_of_iff _ (LH a b).symm
section
variable{W:World}{n:Nat}{H:List ab}{f:Fr}{dst:Option Tmp}{ty_:TypeId}{pos:String}{after:Array Edge}{guard:Option (Nat×Bool)}{op:BinOp}{x y:Operand}{u:TypeId}{v:Value}
end
end Go.Proofs.YtldolcbbmnmjoaaGreat
namespace Go.Proofs.YtldolcbbmnmjoaaGreat
open Go.RowKit Go.Sl
attribute [local irreducible] Own
end Go.Proofs.YtldolcbbmnmjoaaGreat
namespace Go.Proofs.YtldolcbbmnmjoaaGreat
open Go.RowKit Go.Sl
attribute [local irreducible] Sl.Own
abbrev oo(p a:Nat)(l:List UInt8)(k:Int)(R:List ab):List ab:=
  Row p 440 [.slice (ik a) 128 128,ii k]::Own 5 1 (.slice (ik a) 128 128) 128 (bytes l)::R
theorem AW{W:World}{R:List ab}:aq W Tryz.prog 313 [ii 128] R (β:=Nat×Nat) (λ_=>True) (λy=>.tuple #[ip y.1,i6 0]) (λy=>oo y.1 y.2 (List.replicate 128 0) 0 R):=by
 refine ze Tryz.func313 Tryz.ntmps313 ?_;refine zq ?_;refine ay.dd (m:=128) eH rfl rfl rfl (by decide) (by decide) rfl ?_;intro a;rw[show List.replicate 128 (Value.int .u8 0)=bytes (List.replicate 128 0)by rw[dD]];apply VO.pure rfl rfl;apply af.build sb_440 rfl;simp[aC,bR,Value.cells];rfl;rfl;refine w ?_;refine zj λ_=>?_;refine w ?_;rename_i p;exact VE.done (p,a) rfl trivial rfl ae.re
theorem Uo(a b:UInt8):IntKind.u8.wrap ((BitVec.ofInt IntKind.u8.bits (a.toNat:Int)^^^BitVec.ofInt IntKind.u8.bits (b.toNat:Int)).toNat:Int)=((a^^^b).toNat:Int):=by
 have h:∀c:UInt8,(BitVec.ofInt IntKind.u8.bits (c.toNat:Int)).toNat=c.toNat:=λc=>by
  have:=c.toNat_lt;rw[BitVec.toNat_ofInt];show((c.toNat:Int)% ((2^8:Nat):Int)).toNat=_;omega
 rw[BitVec.toNat_xor,h,h,UInt8.toNat_xor];have:=Nat.xor_lt_two_pow a.toNat_lt b.toNat_lt;rw[IntKind.wrap_u8];omega
theorem uU{W:World}{R:List ab}(p a:Nat)(l:List UInt8)(k:Int)(b:l.length=128):
  aq W Tryz.prog 315 [ip p] (oo p a l k R) (β:=Option Addr×Nat) (λ_=>True) (λx=>.slice x.1 128 x.2) (λx=>Own 5 1 (.slice x.1 128 x.2) 128 (bytes l)::oo p a l k R):=by
 have c:aV W (oo p a l k R) 1 (ik a) 128 (bytes l):=aV.own (aQ _) zm (by simp[b]) (by simp);refine aq.enter Tryz.func315 Tryz.ntmps315 rfl rfl ?_;refine zt (s:=gg c (by decide)) (h:=?_);intro x _;refine w ?_;exact VE.done x rfl trivial rfl ae.refl
abbrev dC:List UInt8:=List.replicate 128 0
def eP(a b:List UInt8):List UInt8:=List.zipWith (·^^^·) a b
theorem mU{a b:List UInt8}(c:a.length=128)(d:b.length=128):(eP a b).length=128:=by simp[eP,c,d]
theorem eg{a:List UInt8}(b:a.length=128):eP a dC=a:=by
 apply E6
 · rw[mU b (by simp),b]
 · intro i c d;simp[eP]
theorem k7{a:List UInt8}(b:a.length=128):eP a a=dC:=by
 apply E6
 · rw[mU b b];simp
 · intro i c d;simp[eP]
theorem k6(a b:List UInt8):eP a b=eP b a:=by unfold eP;rw[List.zipWith_comm];congr 1;funext x y;exact UInt8.xor_comm y x
theorem gN(a b c:List UInt8):eP (eP a b) c=eP a (eP b c):=by
 apply E6
 · simp[eP,Nat.min_assoc]
 · intro i d e;simp[eP,UInt8.xor_assoc]
theorem E3{a b:List UInt8}(d:a.length=128)(c:b.length=128)(h:eP a b=dC):a=b:=by
 rw[<-eg d,<-k7 c,<-gN,h,k6,eg c]
theorem uf(a b c:List UInt8):eP (eP a b) c=eP (eP a c) b:=by rw[gN,k6 b c,<-gN]
def ia(f:Nat->List UInt8):Nat->List UInt8
  |0=>dC
  |n+1=>eP (ia f n) (f n)
theorem pJ{f:Nat->List UInt8}:∀{n:Nat},(∀i,i<n->(f i).length=128)->(ia f n).length=128
 |0,_=>by simp[ia]
 |n+1,h=>mU (pJ λi a=>h i zO) (h n zO)
theorem jQ{f g:Nat->List UInt8}:∀{n:Nat},(∀i,i<n->f i=g i)->ia f n=ia g n
 |0,_=>rfl
 |n+1,h=>by unfold ia;rw[jQ λi a=>h i zO,h n zO]
theorem sE{f:Nat->List UInt8}{k:Nat}{x:List UInt8}:∀{n:Nat},(∀i,i<n->(f i).length=128)->k<n->x.length=128->ia (λi=>if i=k then x else f i) n=eP (eP (ia f n) (f k)) x
  |0,_,h,_=>lcs h (by omega)
  |n+1,a,l,j=>by
    have d:=pJ (f:=f) (n:=n) λi c=>a i zO;have b:=a n zO;unfold ia;by_cases e:k=n
    · subst e
      rw[lam rfl,jQ (g:=f) λi c=>aE zO,gN (ia f k),k7 b,eg d]
    · rw[aE zO,sE (λi c=>a i zO) zO j,uf _ x,uf (ia f n)]
theorem GZ{f:Nat->List UInt8}{k n:Nat}(a:∀i,i<n->(f i).length=128)(b:k<n)(h:ia f n=dC):ia (λi=>if i=k then dC else f i) n=f k:=by
 rw[sE a b (by simp),h,eg (mU (by simp) (a k b)),k6,eg (a k b)]
theorem Cv{W:World}{R:List ab}{ao:Option Addr}{cap:Nat}(p a:Nat)(l b:List UInt8)(k:Int)(r:l.length=128)(q:b.length=128)(j:∀d h,aV W (oo p a d h R) 1 ao 128 (bytes b)):
  aq W Tryz.prog 314 [ip p,.slice ao 128 cap] (oo p a l k R) (β:=Int) (λ_=>True) (λ_=>i6 0) (λh=>oo p a (eP l b) h R):=by
 obtain⟨n,rfl⟩:∃x,ao=some x:=by cases ao with|none=>have:=(j l k).nil rfl;omega|some x=>exact⟨x,rfl⟩
 have v:=mU r q;refine ze Tryz.func314 Tryz.ntmps314 ?_
 refine VC.loop (α:=Nat) (λi=>i<=128) (λi=>oo p a ((eP l b).take i++l.drop i) k R)
  (λi=>[(0,ip p),(15,.slice (some n) 128 cap),(16,ii 128),(17,ii i)]) (λi=>128-i) rfl 0 (c7 _) ae.refl zB ?_
 intro i u;obtain⟨d,c⟩:∃d,d=(eP l b).take i++l.drop i:=⟨_,rfl⟩;have s:d.length=128:=by rw[c,c9,j1,CC];omega
 rw[<-c];have hb1:=j d k;have hb2:aV W (oo p a d k R) 1 (ik a) 128 (bytes d):=aV.own (aQ _) zm (by simp[s]) (by simp);refine w ?_;refine zk ?_ ?_<;>intro m
 ·
  have g:i<128:=by have:=cI m;omega
  refine zw ?_;refine ay.NB (xs':=bytes ((eP l b).take (i+1)++l.drop (i+1))) ah rfl rfl rfl rfl zh (by simp;omega) ?_ ?_
  ·
   have t:((eP l b).take i).length=i:=by rw[j1];omega
   have e:d[i]=l[i]:=by
    subst c;rw[List.getElem_append_right zO,List.getElem_drop];congr 1;omega
   have o:(eP l b)[i]=l[i]^^^b[i]:=by simp[eP]
   rw[Uo,e,<-o,c,nZ zO,lx];unfold bytes;rw[show Value.int .u8 ((eP l b)[i].toNat:Int)=gv (eP l b)[i]from rfl,<-List.map_set,KR _ _ zO,vE zO,t,E7];rfl
  refine w ?_;exact VE.round (i+1) g zO zB ae.re
 ·
  have f:i=128:=by have:=dx m;omega
  subst f;rw[c,qy zO,List.drop_of_length_le zO,mn];refine w ?_;exact VE.done (IntKind.i64.wrap (k+1)) rfl trivial rfl ae.re
def ij(l:List aU)(i:Nat):List UInt8:=(l[i]?.map aU.data).getD dC
theorem vv{l:List aU}{i:Nat}(h:i<l.length):ij l i=l[i].data:=by unfold ij;rw[fL h];rfl
theorem KM{W:World}{R:List ab}{m c s:Nat}{ao:Option Addr}{cap:Nat}(T:3<=m/\m<=16)(A:1<=c/\c<=16)(M:1<=s/\s<=256){k r:Nat}(V:k<m)(X:r<s*c)(l:List aU)(S:l.length=m)(t:qI W R ao l)(o:∀i (h:i<l.length),i≠k->l[i].data.length=128):
  aq W Tryz.prog 287 [.agg (cv m c s).toArray,ii r,ii k,.slice ao m cap] R (β:=Option Addr×Nat) (λ_=>True) (λy=>.tuple #[.slice y.1 128 y.2,i6 0])
   (λy=>Sl.Own 5 1 (.slice y.1 128 y.2) 128 (bytes (ia (λi=>if i=k then dC else ij l i) m))::R):=by
 have h:s*c<=256*16:=RC M.2 A.2;have D:aV W R 1 ao m (l.map aU.ei):=S▸t.gz;have P:∀i,i<m->(if i=k then dC else ij l i).length=128:=λi K=>by
  split
  · simp
  · rename_i e;rw[vv zO];exact o i zO e
 refine ze Tryz.func287 Tryz.ntmps287 ?_;refine zj λ_=>?_;refine w ?_;rename_i E;refine zt (s:=FM T A M (k:Int) (r:Int) zO) (h:=?_);rintro⟨z,zb⟩ _;rw[lam zO];refine w ?_;obtain⟨O,rfl⟩:∃x,ao=some x:=by cases ao with|none=>have:=t.gz.nil rfl;omega|some x=>exact⟨x,rfl⟩
 refine VC.aK rfl rfl (by simp) ?_;refine zt (s:=AW) (h:=?_);rintro⟨p,a⟩ _;refine w ?_
 refine VC.loop (α:=Nat×Int) (λy=>y.1<=m) (λy=>oo p a (ia (λi=>if i=k then dC else ij l i) y.1) y.2 (Row E 36 (cv m c s)::R))
  (λy=>[(2,ii (k:Int)),(13,ip p),(37,.slice (some O) m cap),(38,ii m),(39,ii y.1)]) (λy=>m-y.1) rfl (0,0) (c7 _) ae.refl ⟨rfl,rfl,rfl,rfl,rfl,trivial⟩ ?_
 rintro⟨i,u⟩ K;dsimp only at K⊢;have F:=pJ (n:=i) (f:=λi=>if i=k then dC else ij l i) λj U=>P j zO;obtain⟨g,q⟩:∃g,g=ia (λi=>if i=k then dC else ij l i) i:=⟨_,rfl⟩;rw[<-q]at F⊢;have I:∀g u,ae W (oo p a g u (Row E 36 (cv m c s)::R)) R:=λ_ _=>ae.drop (ae.drop (ae.drop ae.refl));have hr1:aV W (oo p a g u (Row E 36 (cv m c s)::R)) 1 (some O) m (l.map aU.ei):=D.aR (I _ _);refine w ?_;refine zk ?_ ?_<;>intro A
 ·
  have B:i<m:=by have:=cI A;omega
  have d:i<l.length:=by omega
  have b:ia (λi=>if i=k then dC else ij l i) (i+1)=eP g (if i=k then dC else ij l i):=by rw[q];rfl
  refine w ?_;refine VO.pure rfl rfl (af.rZ ah rfl rfl hr1 (by rw[law,fL d];rfl)) rfl ?_;refine w ?_;refine zg ?_ ?_<;>intro J
  ·
   have C:i≠k:=by
    intro e;subst e;have:((i:Int) != (i:Int))=true:=J;simp at this
   have G:=o i d C;rw[aE C,vv d]at b;refine w ?_;have v:=Cv (W:=W) (R:=Row E 36 (cv m c s)::R) (cap:=l[i].cap) p a g l[i].data u F G (λY N=>G▸(t.each _ (fF d)).aR (I _ _));refine VO.re 49 (.slice l[i].ao 128 l[i].cap) rfl (by show Value.slice _ l[i].data.length _=_;rw[G]) ?_;refine zt (s:=v) (h:=?_);intro N _;refine w ?_;exact VE.round (i+1,N) B (by dsimp only;omega) ⟨rfl,rfl,rfl,rfl,b7 rfl (by congr 1),trivial⟩ (by dsimp only;rw[b];exact ae.refl)
  ·
   have Q:i=k:=by
    have:((i:Int) != (k:Int))=false:=J;simp at this;omega
   rw[lam Q,eg F]at b;refine w ?_;exact VE.round (i+1,u) B (by dsimp only;omega) ⟨rfl,rfl,rfl,rfl,b7 rfl (by congr 1),trivial⟩ (by dsimp only;rw[b];exact ae.refl)
 ·
  have H:i=m:=by have:=dx A;omega
  subst H;refine zt (s:=uU p a g u F) (h:=?_);intro x _;refine w ?_;exact VE.done x rfl trivial rfl (by rw[<-q];exact ae.trans ae.re (ae.re (L:=Sl.Own 5 1 (.slice x.1 128 x.2) 128 (bytes g)::R)))
end Go.Proofs.YtldolcbbmnmjoaaGreat
namespace Go.Proofs.YtldolcbbmnmjoaaGreat
open Go.RowKit Go.Sl
attribute [local irreducible] Own
abbrev zb:Value:=ib 0
theorem yg:cH Tryz.prog 143 217 (.agg (List.replicate 128 zb).toArray) 128 128:=
 ⟨by kernel_rfl,by kernel_rfl,by simp[Value.cells],by intro u a;simp only[Value.cells,List.toList_toArray]at a;rw[Og a];rfl⟩
theorem tW:cH Tryz.prog 145 219 (.agg (ii 0::List.replicate 128 zb).toArray) 129 136:=
 ⟨by kernel_rfl,by kernel_rfl,by simp[Value.cells],by
  intro u hu;simp only[Value.cells,List.toList_toArray,List.mem_cons]at hu
  rcases hu with hu|hu
  · subst hu;rfl
  · rw[Og hu];rfl⟩
theorem Ez:bM Tryz.prog 219 (ii 0::List.replicate 128 zb) [(0,1),(1,128)]:=by
 refine⟨λw=>?_,_,Tryz.underlying219,λw=>by simp⟩;obtain⟨i,a,b,d,c⟩:=info_parts tW.info;simp[zeroValue,typeInfo,a,b]
theorem ED:∀(vs a b:List Value),vs.length=b.length->bR (a++b) a.length vs=a++vs
  |[],a,b,h=>by cases b with|nil=>simp[bR]|cons _ _=>cases h
  |v::r,a,[],h=>by cases h
  |v::r,a,x::b,h=>by
    have:=ED r (a++[v]) b (by simpa using h);rw[bR,KR _ _ (eI _),E7,List.set_cons_zero];simpa using this
structure ak where
  last:List (List UInt8)
  cache:List (Nat×List UInt8)
  failed:Bool
structure ak.ok(k:ak):Prop where
  last:∀b∈k.last,b.length=128
  cache:∀c∈k.cache,c.1<k.last.length/\c.2.length=128
  size:k.last.length<=8192
def gu(c:Nat×List UInt8):List Value:=ii (c.1:Int)::bytes c.2
def DJ:List (Nat×List UInt8)->Int->Option Int
  |[],_=>none
  |c::r,a=>if a=(c.1:Int)then some (r.length:Int)else DJ r a
def lG(c:List (Nat×List UInt8)):Int->Option Int:=DJ c.reverse
theorem x4:lG []=λ_=>none:=rfl
theorem uH(c:List (Nat×List UInt8))(x:Nat×List UInt8):lG (c++[x])=ub (lG c) (x.1:Int) (c.length:Int):=by
 funext a;simp[lG,DJ,ub]
abbrev nX(d:Nat)(k:ak)(x:(Option Addr×Nat)×(Option Addr×Nat)×Nat)(R:List ab):List ab:=
  Row d 147 [.slice x.1.1 k.last.length x.1.2,.slice x.2.1.1 k.cache.length x.2.1.2,.map (some x.2.2),.bool k.failed]::Own 217 128 (.slice x.1.1 k.last.length x.1.2) k.last.length (k.last.flatMap bytes)::
    Own 219 129 (.slice x.2.1.1 k.cache.length x.2.1.2) k.cache.length (k.cache.flatMap gu)::mc x.2.2 (lG k.cache)::R
def bl(d:Nat)(k:ak):ab:=ex λx:(Option Addr×Nat)×(Option Addr×Nat)×Nat=>Sl.star (fact k.ok::nX d k x [])
theorem bl.open{W w:World}{d:Nat}{k:ak}{R:List ab}(a:Holds W (bl d k::R) w):∃x:{x:(Option Addr×Nat)×(Option Addr×Nat)×Nat//k.ok},Holds W (nX d k x.1 R) w:=by
 obtain⟨x,h⟩:=a.gW;have h:=h.join;exact⟨⟨x,h.iX⟩,h.tail⟩
theorem bl.shut{W:World}{d:Nat}{k:ak}{R:List ab}(a:k.ok){x:(Option Addr×Nat)×(Option Addr×Nat)×Nat}:ae W (nX d k x R) (bl d k::R):=λ_ b=>
 Holds.dU x (Holds.nest (L:=[_,_,_,_,_]) (b.gG a))
theorem bl.bH{W w:World}{d:Nat}{k:ak}{R:List ab}(a:Holds W (bl d k::R) w):k.ok:=by
 obtain⟨⟨_,h⟩,_⟩:=bl.open a;exact h
def bC:List UInt8:=List.replicate 128 0
theorem lN:bC.length=128:=by simp[bC]
theorem oV(z:Value)(s m:Nat)(a:0<s):(madeCells (List.replicate s z).toArray m).toList=List.replicate m z:=by
 apply E6
 · simp[madeCells]
 ·
  intro i b c;have:i%s<s:=qX _ a;simp[madeCells,this]
theorem yA:∀n:Nat,(List.replicate n bC).flatMap bytes=List.replicate (n*128) zb
  |0=>by simp
  |n+1=>by
    rw[List.replicate_succ,Oi,yA n,bC,dD,Tk,Nat.one_mul,BG (n*128),List.replicate_append_replicate]
theorem wD{W:World}{R:List ab}(n:Nat)(l:1<=n)(g:n<=8192):
  aq W Tryz.prog 45 [ii n] R (β:=Nat) (λ_=>True) (λd=>.tuple #[ip d,i6 0]) (λd=>bl d ⟨List.replicate n bC,[],false⟩::R):=by
 refine ze Tryz.func45 Tryz.ntmps45 ?_;refine VO.gF rfl rfl rfl (by simp;omega) ?_;refine w ?_;refine VC.aK rfl rfl (by simp;omega) ?_;refine zw ?_;refine ay.makeSlice yg rfl rfl ?_ ?_ rfl ?_
 · omega
 · simp only[maxLen];omega
 intro nb;have e:(madeCells (Value.agg (List.replicate 128 zb).toArray).cells (n*128)).toList=(List.replicate n bC).flatMap bytes:=by
  rw[yA];exact oV zb 128 (n*128) (by decide)
 rw[e];refine zq ?_;refine ay.makeMap rfl ?_;intro j;apply VO.pure rfl rfl;apply af.build sb_147 rfl;simp[aC,bR,Value.cells];rfl;rfl;refine w ?_;refine zj λ_=>?_;refine w ?_;refine VE.done _ rfl trivial rfl ?_;intro w a;have a:=a.aZ 219 129;have f:(List.replicate n bC).length=n:=j0;refine bl.shut (k:=⟨List.replicate n bC,[],false⟩) (x:=((ik nb,n),(none,0),j)) ⟨λb h=>(by rw[Og h];exact lN),λc i=>lcs i (by simp),(by rw[f];exact g)⟩ w (a.fk ?_);simp only[nX,f,List.length_nil,List.flatMap_nil,x4];(repeat first|exact .refl|(apply aP.cons;focus repeat first|exact .head|apply nW.tail)|exact .nil|apply aP.drop)
theorem uo{W:World}{R:List ab}(n:Int)(h:n<1\/8192<n):
  az W Tryz.prog 45 [ii n] R (.tuple #[.pointer none,i6 40]) R:=by
 refine ze Tryz.func45 Tryz.ntmps45 ?_;refine zg ?_ ?_<;>intro a
 ·
  refine w ?_;exact VE.ax rfl rfl ae.refl
 ·
  refine w ?_;refine VC.cU rfl rfl (by have:=dx a;simp;omega) ?_;refine w ?_;exact VE.ax rfl rfl ae.refl
def ak.may(k:ak)(at_:Int):Int:=if k.failed then 2 else if at_<0\/(k.last.length:Int)<=at_ then 3 else 0
theorem xu{W:World}{R:List ab}(d:Nat)(k:ak)(at_:Int):
  az W Tryz.prog 140 [ip d,ii at_] (bl d k::R) (i6 (k.may at_)) (bl d k::R):=by
 (refine aq.enter Tryz.func140 Tryz.ntmps140 rfl rfl ?_);refine VC.obtain (λw=>bl.open) ?_;rintro⟨⟨⟨ao,cap⟩,⟨f,cap'⟩,m⟩,b⟩;refine w ?_;refine zk ?_ ?_<;>intro a
 ·
  refine w ?_;refine VE.ax rfl ?_ ?_
  · simp[ak.may,a]
  · exact bl.shut b
 have c:k.failed=false:=a;refine w ?_;refine zg ?_ ?_<;>intro e
 ·
  have:at_<0:=cI e;refine w ?_;refine VE.ax rfl ?_ ?_
  · simp[ak.may,c,this]
  · exact bl.shut b
 have g:¬at_<0:=dx e;refine w ?_;refine zk ?_ ?_<;>intro a
 ·
  have:(k.last.length:Int)<=at_:=by simpa using a
  refine w ?_;refine VE.ax rfl ?_ ?_
  · simp[ak.may,c,this]
  · exact bl.shut b
 ·
  have:¬(k.last.length:Int)<=at_:=by simpa using a
  refine w ?_;refine VE.ax rfl ?_ ?_
  · simp only[ak.may,c];rw[aE (by simp),aE zO]
  · exact bl.shut b
theorem Dd{W:World}{R:List ab}(d:Nat)(k:ak):
  az W Tryz.prog 75 [ip d] (bl d k::R) (ii k.last.length) (bl d k::R):=by
 (refine aq.enter Tryz.func75 Tryz.ntmps75 rfl rfl ?_);refine VC.obtain (λw=>bl.open) ?_;rintro⟨⟨⟨ao,cap⟩,⟨a,cap'⟩,m⟩,b⟩;refine w ?_;refine VE.ax rfl ?_ ?_
 · rfl
 · exact bl.shut b
theorem zM{W:World}{R:List ab}(d:Nat)(k:ak):
  az W Tryz.prog 74 [ip d] (bl d k::R) (.bool k.failed) (bl d k::R):=by
 (refine aq.enter Tryz.func74 Tryz.ntmps74 rfl rfl ?_);refine VC.obtain (λw=>bl.open) ?_;rintro⟨⟨⟨ao,cap⟩,⟨a,cap'⟩,m⟩,b⟩;refine w ?_;refine VE.ax rfl ?_ ?_
 · rfl
 · exact bl.shut b
def ak.write(k:ak)(a:Nat)(b:List UInt8):ak:={k with cache:=k.cache++[(a,b)]}
theorem KG{W:World}{R:List ab}{ao:Option Addr}{cap nb:Nat}(d:Nat)(k:ak)(at_:Int)(h:k.may at_≠0):
  az W Tryz.prog 79 [ip d,ii at_,.slice ao nb cap] (bl d k::R) (i6 (k.may at_)) (bl d k::R):=by
 (refine aq.enter Tryz.func79 Tryz.ntmps79 rfl rfl ?_);refine zr (s:=xu d k at_) (h:=?_);intro _ _;refine w ?_;refine VC.cU rfl rfl (by simpa using h) ?_;refine w ?_;refine VE.ax rfl ?_ ?_
 · rfl
 · exact ae.refl
theorem xv{k:ak}{a:Int}(h:k.may a=0):k.failed=false/\0<=a/\a<k.last.length:=by
 unfold ak.may at h;split at h
 · cases h
 ·
  rename_i b;split at h
  · cases h
  · exact⟨by simpa using b,by omega,by omega⟩
theorem KH{W:World}{R:List ab}{ao:Option Addr}{cap nb:Nat}(d:Nat)(k:ak)(at_:Int)(h:k.may at_=0)(a:nb≠128):
  az W Tryz.prog 79 [ip d,ii at_,.slice ao nb cap] (bl d k::R) (i6 4) (bl d k::R):=by
 (refine aq.enter Tryz.func79 Tryz.ntmps79 rfl rfl ?_);refine zr (s:=xu d k at_) (h:=?_);intro _ _;refine w ?_;refine VC.aK rfl rfl (by simp[h]) ?_;refine w ?_;refine VC.cU rfl rfl (by simp;omega) ?_;refine w ?_;refine VE.ax rfl ?_ ?_
 · rfl
 · exact ae.refl
theorem uj{a:List (Nat×Nat)}{cs:List Value}{i o:Nat}{v:Value}{r:List (Nat×Value)}(h:a[i]?=some (o,v.cells.size))(b:o+v.cells.size<=cs.length):
  aC a cs ((i,v)::r)=aC a (bR cs o v.cells.toList) r:=by
 rw[aC,h];simp only[ne_eq,not_true_eq_false,decide_false,Bool.false_or];rw[aE (by simpa using b)]
theorem CZ(a:Int)(vs:List Value)(h:vs.length=128):aC [(0,1),(1,128)] (ii 0::List.replicate 128 zb) [(0,ii a),(1,.agg vs.toArray)]=some (ii a::vs):=by
 have e:bR (ii a::List.replicate 128 zb) 1 vs=ii a::vs:=ED vs [ii a] (List.replicate 128 zb) (by rw[h,j0]);rw[uj (o:=0) (v:=ii a) rfl (by show 0+1<=_;rw[tc,j0];decide),uj (o:=1) (v:= .agg vs.toArray) (by show some (1,128)=some (1,vs.toArray.size);rw[List.size_toArray,h]) (by show 1+vs.toArray.size<=(bR _ 0 [_]).length;rw[uJ,tc,j0,List.size_toArray,h];decide)];exact JB some e
theorem fv{c:Nat×List UInt8}(h:c.2.length=128):(gu c).length=129:=by simp[gu,h]
theorem ry(c:Nat×List UInt8):∀u∈gu c,u.oneCell'=true:=by
 intro u a;rcases List.mem_cons.1 a with h|h
 · subst h;rfl
 · exact aQ _ u h
theorem qp(a:Addr):a.add 0=a:=by simp[Addr.add]
theorem ak.AV{k:ak}{a:Nat}{b:List UInt8}(d:k.ok)(e:a<k.last.length)(f:b.length=128):(k.write a b).ok:=
 ⟨d.last,λc g=>by
  rcases l0.1 g with h|h
  · exact d.cache c h
  · rw[ju]at h;subst h;exact⟨e,f⟩,d.size⟩
theorem N7{W:World}{R:List ab}{ao:Option Addr}{cap:Nat}{b:List UInt8}(d:Nat)(k:ak)(a:Nat)(q:a<k.last.length)(r:k.failed=false)(c:b.length=128)(v:k.cache.length<=1000000000)
  (i:aV W R 1 ao 128 (bytes b)):
  az W Tryz.prog 79 [ip d,ii a,.slice ao 128 cap] (bl d k::R) (i6 0) (bl d (k.write a b)::R):=by
 have u:k.may a=0:=by unfold ak.may;rw[r,aE (by simp),aE zO]
 obtain⟨e,rfl⟩:∃e,ao=some e:=by cases ao with|none=>have:=i.nil rfl;omega|some e=>exact⟨e,rfl⟩
 refine aq.enter Tryz.func79 Tryz.ntmps79 rfl rfl ?_;refine zr (s:=xu d k a) (h:=?_);intro _ _;refine w ?_;refine VC.aK rfl rfl (by simp[u]) ?_;refine w ?_;refine VC.obtain (λw=>bl.open) ?_;rintro⟨⟨⟨j,lc⟩,⟨co,l⟩,m⟩,t⟩;refine zx [] 10 [0,1,2,3,4,5,6,7,8,9,10] _ ?_;dsimp only[nX];refine zw ?_;refine ay.mapUpdate Tryz.underlying144 Tryz.underlying3 rfl rfl rfl zh ?_;refine w ?_;refine zx [10,11] 12 [0,1,2,3,4,5,6,7,8,9,10,11,12,13,14] (Row d 147 [.slice j k.last.length lc,.slice co k.cache.length l,.map (some m),.bool k.failed]::R) ?_;refine w ?_;refine VD.take rfl rfl rfl (af.toArray Tryz.underlying217 rfl (eI 128)) rfl ?_;refine VD.re 34 (.pointer (some (e.add 0))) rfl (by rw[qp]) ?_;refine VD.take rfl rfl rfl (.gY ah rfl rfl (i.aR (aP.aR (aP.drop .refl))) (show((bytes b).drop 0).take 128=bytes b from qy (by simp[c])) (by simp[c])) rfl ?_;refine VD.take rfl rfl rfl (af.build Ez rfl (CZ a (bytes b) (by simp[c]))) rfl ?_;refine zq ?_;refine ay.buildSlice (vs:=[.agg (gu (a,b)).toArray]) (cs:=gu (a,b)) tW rfl rfl (by simp[Value.cells,gu,c]) (by simp[Value.cells]) (by decide) rfl ?_;intro nb;refine⟨ae.re,?_⟩;refine zq ?_;refine ay.cg tW rfl rfl zh zm (by simp[gu,c]) (ry (a,b)) ?_ ?_ rfl ?_
 · simp only[maxLen];omega
 · omega
 intro g f;refine⟨ae.re,?_⟩;refine w ?_;refine VE.ax rfl ?_ ?_
 · rfl
 ·
  refine ae.trans ?_ (bl.shut (x:=((j,lc),(g,f),m)) (ak.AV t q c));have n:(k.write a b).cache=k.cache++[(a,b)]:=rfl;have o:(k.write a b).last=k.last:=rfl;have p:(k.write a b).failed=k.failed:=rfl;simp only[nX,n,o,p,uH,E5,List.flatMap_singleton,c9,ie,List.set_cons_zero,List.set_cons_succ];exact ae.re
def ki(a:Nat->Bool):List (List UInt8)->Nat->List (Nat×List UInt8)->List (List UInt8)
  |last,_,[]=>last
  |last,i,c::r=>ki a (if a i then last.set c.1 c.2 else last) (i+1) r
theorem AH(a:Nat->Bool)(c:Nat×List UInt8):∀(l:List (Nat×List UInt8))(last:List (List UInt8))(i:Nat),ki a last i (l++[c])=if a (i+l.length)then(ki a last i l).set c.1 c.2 else ki a last i l
  |[],last,i=>by simp[ki]
  |x::r,last,i=>by
    rw[QD,ki,AH a c r,ki,tc,show i+1+r.length=i+(r.length+1)by omega]
theorem iJ(a:Nat->Bool):∀(l:List (Nat×List UInt8))(last:List (List UInt8))(i:Nat),(ki a last i l).length=last.length
 |[],_,_=>rfl
 |x::r,last,i=>by rw[ki,iJ a r];split<;>simp
theorem x8(a:Nat->Bool):∀(l:List (Nat×List UInt8))(last:List (List UInt8))(i:Nat),(∀b∈last,b.length=128)->(∀c∈l,c.2.length=128)->∀b∈ki a last i l,b.length=128
  |[],_,_,h,_,b,d=>h b d
  |x::r,last,i,h,f,b,d=>by
    rw[ki]at d;refine x8 a r _ _ (λy e=>?_) (λc h=>f c (.tail _ h)) b d;split at e
    · rcases List.mem_or_eq_of_mem_set e with q|q
      · exact h y q
      · subst q;exact f x (.head _)
    · exact h y e
theorem tX(a vs:List Value)(n:Nat)(h:a.length=n):a.take 0++vs++a.drop (0+n)=vs:=by simp[<-h]
def ak.settle(k:ak)(a:Nat->Bool):ak:=⟨ki a k.last 0 k.cache,[],k.failed⟩
theorem ak.fU{k:ak}{a:Nat->Bool}(b:k.ok):(k.settle a).ok:=
 ⟨x8 a _ _ _ b.last (λc h=>(b.cache c h).2),λc h=>lcs h (by simp[ak.settle]),by unfold ak.settle;rw[iJ];exact b.size⟩
theorem wq(l:List (Nat×List UInt8)):∀u∈l.flatMap gu,u.oneCell'=true:=by
 intro u a;obtain⟨c,_,h⟩:=Ai.1 a;exact ry c u h
theorem Jy(l:List (List UInt8)):∀u∈l.flatMap bytes,u.oneCell'=true:=by
 intro u a;obtain⟨c,_,h⟩:=Ai.1 a;exact aQ c u h
theorem tT{W:World}{R:List ab}{g:FuncId}{cp:Array Value}{e:Nat->Bool}(d:Nat)(k:ak)(B:∀a w,(callFunc g a).run Tryz.prog w= .ok (.enter g a) w)
  (l:∀(i:Nat)(X:List ab),az W Tryz.prog g (ii i::cp.toList) (X++R) (.bool (e i)) (X++R)):
  az W Tryz.prog 155 [ip d,.func (.func g) #[] cp] (bl d k::R) (.tuple #[]) (bl d (k.settle e)::R):=by
 (refine aq.enter Tryz.func155 Tryz.ntmps155 rfl rfl ?_);refine VC.obtain (λw=>bl.open) ?_;rintro⟨⟨⟨s,lc⟩,⟨co,q⟩,m⟩,r⟩;dsimp only[nX];refine VC.bH (λw p=>p.bn zm:∀w,_->(co=none->k.cache.length=0)) ?_;intro u;refine VC.bH (λw p=>p.bn zm:∀w,_->(s=none->k.last.length=0)) ?_;intro D;refine VC.bH (λw p=>p.RW (show Own 219 129 (.slice co k.cache.length q) k.cache.length (k.cache.flatMap gu)∈_ by(focus repeat first|exact .head _|apply List.Mem.tail)):∀w,_->k.cache.length<=maxLen) ?_;intro v;simp only[maxLen]at v;refine w ?_
 refine VC.loop (α:=Nat) (λi=>i<=k.cache.length)
  (λi=>Row d 147 [.slice s k.last.length lc,.slice co k.cache.length q,.map (some m),.bool k.failed]::Own 217 128 (.slice s k.last.length lc) k.last.length ((ki e k.last 0 (k.cache.take i)).flatMap bytes)::
   Own 219 129 (.slice co k.cache.length q) k.cache.length (k.cache.flatMap gu)::mc m (lG k.cache)::R)
  (λi=>[(0,ip d),(1,.func (.func g) #[] cp),(9,.slice co k.cache.length q),(10,ii k.cache.length),(11,ii i)]) (λi=>k.cache.length-i) rfl 0 (c7 _) ae.refl ⟨rfl,rfl,rfl,rfl,rfl,trivial⟩ ?_
 intro i J;refine w ?_;refine zk ?_ ?_<;>intro t
 ·
  have f:i<k.cache.length:=by have:=cI t;omega
  obtain⟨a,rfl⟩:∃a,co=some a:=by cases co with|none=>have:=u rfl;omega|some a=>exact⟨a,rfl⟩
  obtain⟨K,j⟩:=r.cache k.cache[i] (fF f);obtain⟨b,rfl⟩:∃b,s=some b:=by cases s with|none=>have:=D rfl;omega|some b=>exact⟨b,rfl⟩
  have o:=dW (g:=gu) (w:=129) k.cache i f (λc h=>fv (r.cache c h).2);refine w ?_;refine VO.pure rfl rfl (.gY ah rfl rfl (aV.own (wq _) zm (cW _ (λc h=>fv (r.cache c h).2)) u) o (fv j)) rfl ?_;generalize A:k.cache[i]=c at*;have z:ki e k.last 0 (k.cache.take (i+1))=if e i then(ki e k.last 0 (k.cache.take i)).set c.1 c.2 else ki e k.last 0 (k.cache.take i):=by
   rw[nZ f,AH,j1,Nat.min_eq_left J,PA,A]
  have E:(ki e k.last 0 (k.cache.take i)).length=k.last.length:=iJ _ _ _ _;have y:=x8 e (k.cache.take i) k.last 0 r.last (λc h=>(r.cache c (Tl h)).2);generalize ki e k.last 0 (k.cache.take i)=F at*;refine zq ?_;refine ay.aB Ez rfl ?_;intro L;refine zw ?_;refine ay.gL (vs:=gu c) ah rfl rfl rfl (fv j) (ry _) zh (by rw[tc,j0];decide) ?_;rw[tX _ _ 129 (by rw[tc,j0])];refine zw ?_
  refine ay.call rfl rfl B (l i [Row L 219 (gu c),Row d 147 [.slice (some b) k.last.length lc,.slice (some a) k.cache.length q,.map (some m),.bool k.failed],Own 217 128 (.slice (some b) k.last.length lc) k.last.length (F.flatMap bytes),
   Own 219 129 (.slice (some a) k.cache.length q) k.cache.length (k.cache.flatMap gu),mc m (lG k.cache)]) ae.refl rfl ?_
  intro _ _;dsimp only[List.cons_append,List.nil_append];refine w ?_;refine zk ?_ ?_<;>intro t
  ·
   have n:e i=true:=t;refine w ?_;refine zx [] 8 [0,1,2,3,4,5,6,7,8,9] _ ?_;refine w ?_;refine VD.take rfl rfl rfl (af.Tn ah rfl rfl (.head _) (show((gu c).drop 1).take 128=bytes c.2 from qy (by rw[CC,fv j];decide)) (by simp[j])) rfl ?_;refine zw ?_;refine ay.P7 (vs:=bytes c.2) ah rfl rfl rfl (by simp[j]) (aQ _) zh ?_ ?_
   · rw[cW (w:=128) _ (λb h=>by simp[y b h]),E];omega
   rw[wI (g:=bytes) (w:=128) c.2 F c.1 zO (λb h=>by simp[y b h])];refine w ?_;refine VE.round (i+1) f zO ⟨rfl,rfl,rfl,rfl,rfl,trivial⟩ ?_;rw[z,lam n];exact ae.re
  ·
   have n:¬e i=true:=by simpa using t
   refine w ?_;refine VE.round (i+1) f zO ⟨rfl,rfl,rfl,rfl,rfl,trivial⟩ ?_;rw[z,aE n];exact ae.re
 ·
  have C:i=k.cache.length:=by have:=dx t;omega
  subst C;rw[qy (eI k.cache.length)];refine zw ?_;refine ay.LI Tryz.underlying144 rfl zh ?_;refine w ?_;refine VE.b9 rfl ?_ ?_
  · rfl
  ·
   intro w p;refine bl.shut (k:=k.settle e) (x:=((s,lc),(none,0),m)) (ak.fU r) w ((p.aZ 219 129).fk ?_);have G:(k.settle e).cache=[]:=rfl;have H:(k.settle e).last=ki e k.last 0 k.cache:=rfl;have I:(k.settle e).failed=k.failed:=rfl;simp only[nX,G,H,I,x4,iJ,List.flatMap_nil,List.length_nil,List.set_cons_zero,List.set_cons_succ];(repeat first|exact .refl|(apply aP.cons;focus repeat first|exact .head|apply nW.tail)|exact .nil|apply aP.drop)
theorem ae.nA{W:World}{R:List ab}:∀X:List ab,ae W (X++R) R
 |[]=>ae.refl
 |_::r=>ae.drop (ae.nA r)
theorem Je{W:World}{R:List ab}(i:Nat):az W Tryz.prog 156 [ii i] R (.bool true) R:=by
 refine ze Tryz.func156 Tryz.ntmps156 ?_;exact VE.ax rfl rfl ae.refl
theorem L5{W:World}{R:List ab}(i:Nat):az W Tryz.prog 174 [ii i] R (.bool false) R:=by
 refine ze Tryz.func174 Tryz.ntmps174 ?_;exact VE.ax rfl rfl ae.refl
def cT(l:List Bool):List Value:=l.map .bool
@[simp] theorem rN(l:List Bool):(cT l).length=l.length:=by simp[cT]
theorem zi(l:List Bool):∀u∈cT l,u.oneCell'=true:=by
 intro u a;obtain⟨c,_,rfl⟩:=fG.1 a;rfl
def jI(l:List Bool)(i:Nat):Bool:=l.getD i false
theorem IX{W:World}{R:List ab}{ao:Option Addr}{n cap e:Nat}{l:List Bool}(i:Nat)(h:Row e 63 [.slice ao n cap]∈R)(d:aV W R 1 ao n (cT l)):
  az W Tryz.prog 178 [ii i,ip e] R (.bool (jI l i)) R:=by
 have g:l.length=n:=by have:=d.len;simpa using this
 refine ze Tryz.func178 Tryz.ntmps178 ?_;refine VO.pure rfl rfl (af.ld ah rfl rfl h rfl) rfl ?_;refine w ?_;refine zg ?_ ?_<;>intro f
 ·
  have c:i<n:=by have:=cI f;omega
  obtain⟨a,rfl⟩:∃a,ao=some a:=by cases ao with|none=>have:=d.nil rfl;omega|some a=>exact⟨a,rfl⟩
  refine VO.pure rfl rfl (af.ld ah rfl rfl h rfl) rfl ?_;refine w ?_;refine VO.pure rfl rfl (af.rZ ah rfl rfl d (show(cT l)[i]?=some (.bool (jI l i))by simp[cT,jI,g,c])) rfl ?_;refine w ?_;exact VE.ax rfl rfl ae.refl
 ·
  have b:n<=i:=by have:=dx f;omega
  refine w ?_;refine VE.ax rfl ?_ ?_
  · simp[jI,g,b]
  · exact ae.refl
theorem Ma{W:World}{R:List ab}(d:Nat)(k:ak)(a:k.failed=false):
  az W Tryz.prog 88 [ip d] (bl d k::R) (i6 0) (bl d (k.settle λ_=>true)::R):=by
 (refine aq.enter Tryz.func88 Tryz.ntmps88 rfl rfl ?_);refine VC.obtain (λw=>bl.open) ?_;rintro⟨⟨⟨e,lc⟩,⟨co,c⟩,m⟩,b⟩;refine w ?_;refine VC.aK rfl rfl (a) ?_;refine VC.aR (bl.shut b) ?_;refine zr (s:=tT (cp:=#[]) d k (λ_ _=>by simp) (λi X=>Je i)) (h:=?_);intro _ _;refine w ?_;refine VE.ax rfl ?_ ?_
 · rfl
 · exact ae.refl
theorem Jd{W:World}{R:List ab}(d:Nat)(k:ak)(a:k.failed=true):
  az W Tryz.prog 88 [ip d] (bl d k::R) (i6 2) (bl d k::R):=by
 (refine aq.enter Tryz.func88 Tryz.ntmps88 rfl rfl ?_);refine VC.obtain (λw=>bl.open) ?_;rintro⟨⟨⟨e,lc⟩,⟨co,c⟩,m⟩,b⟩;refine w ?_;refine VC.cU rfl rfl (a) ?_;refine w ?_;refine VE.ax rfl ?_ ?_
 · rfl
 · exact bl.shut b
theorem Hu{W:World}{R:List ab}(d:Nat)(k:ak):
  az W Tryz.prog 113 [ip d] (bl d k::R) (.tuple #[]) (bl d ((ak.mk k.last k.cache true).settle λ_=>false)::R):=by
 (refine aq.enter Tryz.func113 Tryz.ntmps113 rfl rfl ?_);refine VC.obtain (λw=>bl.open) ?_;rintro⟨⟨⟨c,lc⟩,⟨co,b⟩,m⟩,a⟩;dsimp only[nX];refine w ?_;refine VO.aR (bl.shut (k:=⟨k.last,k.cache,true⟩) (x:=((c,lc),(co,b),m)) ⟨a.last,a.cache,a.size⟩) ?_;refine zr (s:=tT (cp:=#[]) d ⟨k.last,k.cache,true⟩ (λ_ _=>by simp) (λi X=>L5 i)) (h:=?_);intro _ _;refine w ?_;refine VE.b9 rfl ?_ ?_
 · rfl
 · exact ae.refl
theorem LP{W:World}{R:List ab}{ao:Option Addr}{n cap:Nat}{l:List Bool}(d:Nat)(k:ak)(b:aV W R 1 ao n (cT l)):
  az W Tryz.prog 123 [ip d,.slice ao n cap] (bl d k::R) (.tuple #[]) (bl d (k.settle (jI l))::R):=by
 refine ze Tryz.func123 Tryz.ntmps123 ?_;refine zj λ_=>?_;refine w ?_;rename_i a;refine VO.pure rfl rfl (af.pU rfl) rfl ?_;refine zr (s:=tT (R:=Row a 63 [.slice ao n cap]::R) (cp:=#[ip a]) d k (λ_ _=>by simp) (λi X=>IX i (List.mem_append_right _ (.head _)) (b.aR ((ae.nA X).trans (ae.drop ae.refl))))) (h:=?_);intro _ _;refine w ?_;refine VE.b9 rfl ?_ ?_
 · rfl
 · exact ae.re
theorem w7:∀(r:List (Nat×List UInt8))(a i:Int),DJ r a=some i->∃j c,i=((j:Nat):Int)/\j<r.length/\r.reverse[j]?=some c/\a=((c.1:Nat):Int)
  |[],_,_,h=>by cases h
  |c::r,a,i,h=>by
    unfold DJ at h;split at h
    · rename_i e
      cases h
      exact⟨r.length,c,rfl,by simp,by rw[List.reverse_cons,Ob (by simp)];simp,e⟩
    · obtain⟨j,c',b,d,f,g⟩:=w7 r a i h
      exact⟨j,c',b,by simp;omega,by rw[List.reverse_cons,Ah (by simpa using d)];exact f,g⟩
theorem pj{c:List (Nat×List UInt8)}{a i:Int}(h:lG c a=some i):∃j x,i=((j:Nat):Int)/\j<c.length/\c[j]?=some x/\a=((x.1:Nat):Int):=by
 obtain⟨j,x,b,d,e,f⟩:=w7 _ a i h;exact⟨j,x,b,by simpa using d,by simpa using e,f⟩
def ak.look(k:ak)(a:Nat):List UInt8:=match lG k.cache (a:Int)with
  |some i=>((k.cache[i.toNat]?).map (·.2)).getD []
  |none=>(k.last[a]?).getD []
theorem ak.xk(k:ak)(a:Nat)(b:List UInt8)(c:Nat):(k.write a b).look c=if c=a then b else k.look c:=by
  unfold ak.look;have d:(k.write a b).cache=k.cache++[(a,b)]:=rfl;have e:(k.write a b).last=k.last:=rfl;rw[d,e,uH];by_cases h:c=a
  · subst h;simp[ub]
  · rw[aE h]
    have f:¬((c:Int)=((a,b).1:Nat)):=by simp only;omega
    unfold ub
    rw[aE f]
    cases l:lG k.cache (c:Int)with
    |none=>rfl
    |some i=>
      obtain⟨j,x,rfl,g,m,n⟩:=pj l
      simp only[Int.toNat_natCast]
      rw[Ah g]
theorem ak.jJ{k:ak}(h:k.cache=[])(a:Nat):k.look a=(k.last[a]?).getD []:=by
 unfold ak.look;rw[h];rfl
theorem ak.r5{k:ak}(d:k.ok){a:Nat}(c:a<k.last.length):(k.look a).length=128:=by
 unfold ak.look;split
 ·
  rename_i i h;obtain⟨j,x,rfl,e,b,f⟩:=pj h;rw[Int.toNat_natCast,b];exact(d.cache x (lay b)).2
 ·
  rw[fL c];exact d.last _ (fF c)
theorem Fv{l:List (Nat×List UInt8)}(j:Nat)(x:Nat×List UInt8)(h:l[j]?=some x)(b:∀c∈l,c.2.length=128):((l.flatMap gu).drop (j*129+1)).take 128=bytes x.2:=by
 obtain⟨a,rfl⟩:=HE.1 h;have:=dW (g:=gu) (w:=129) l j a (λc h=>fv (b c h));rw[<-QC,List.take_drop,show 1+128=129 from rfl,this];rfl
theorem I4{W:World}{R:List ab}(d:Nat)(k:ak)(at_:Int)(h:k.may at_≠0):
  az W Tryz.prog 253 [ip d,ii at_] (bl d k::R) (.tuple #[.slice none 0 0,i6 (k.may at_)]) (bl d k::R):=by
 (refine aq.enter Tryz.func253 Tryz.ntmps253 rfl rfl ?_);refine zr (s:=xu d k at_) (h:=?_);intro _ _;refine w ?_;refine VC.cU rfl rfl (by simpa using h) ?_;refine w ?_;refine VE.ax rfl ?_ ?_
 · rfl
 · exact ae.refl
theorem L0{W:World}{R:List ab}(d:Nat)(k:ak)(a:Nat)(G:k.failed=false)(v:a<k.last.length):
    aq W Tryz.prog 253 [ip d,ii a] (bl d k::R) (β:=Addr×Nat) (λ_=>True) (λx=>.tuple #[.slice (some x.1) 128 x.2,i6 0])
      (λx=>Own 5 1 (.slice (some x.1) 128 x.2) 128 (bytes (k.look a))::bl d k::R):=by
  have I:k.may a=0:=by unfold ak.may;rw[G,aE (by simp),aE zO]
  refine aq.enter Tryz.func253 Tryz.ntmps253 rfl rfl ?_;refine zr (s:=xu d k a) (h:=?_);intro _ _;refine w ?_;refine VC.aK rfl rfl (by simp[I]) ?_;refine w ?_;refine VO.obtain (λw=>bl.open) ?_;rintro⟨⟨⟨C,lc⟩,⟨co,D⟩,m⟩,l⟩;dsimp only[nX];refine VO.bH (λw o=>o.bn zm:∀w,_->(co=none->k.cache.length=0)) ?_;intro q;refine VO.bH (λw o=>o.bn zm:∀w,_->(C=none->k.last.length=0)) ?_;intro r;obtain⟨b,rfl⟩:∃b,C=some b:=by cases C with|none=>have:=r rfl;omega|some b=>exact⟨b,rfl⟩
  have E:∀x∈k.last,(bytes x).length=128:=λx h=>by simp[l.last x h]
  have e:k.last[a].length=128:=l.last _ (fF v);refine w ?_;refine VO.pure rfl rfl (.gY ah rfl rfl (aV.own (Jy _) zm (cW _ E) r) (dW (g:=bytes) k.last a v E) (by simp[e])) rfl ?_;refine zq ?_;refine ay.QY yg (cs:=List.replicate 128 zb) rfl rfl ?_;intro u;refine zq ?_;refine ay.gL (vs:=bytes k.last[a]) ah rfl rfl rfl (by simp[e]) (aQ _) zh (by rw[j0];decide) ?_;rw[tX _ _ 128 (by rw[j0])];refine w ?_;refine VO.pure rfl rfl (af.lookup Tryz.underlying144 Tryz.underlying3 (λw=>by simp) rfl rfl zm) rfl ?_;refine w ?_;refine VC.join (α:=Nat) (λ_=>True) (λ_=>Row u 217 (bytes (k.look a))::nX d k ((some b,lc),(co,D),m) R) (λ_=>[(7,ip u)]) ?_ ?_
  · intro K y
    cases A:lG k.cache (a:Int)with
    |none=>
      refine VC.aK rfl rfl (rfl) ?_
      have n:k.look a=k.last[a]:=by unfold ak.look;rw[A,fL v];rfl
      rw[n]at y
      refine w ?_
      refine y.to 0 trivial ⟨rfl,trivial⟩ ?_;(try dsimp only);exact ae.re
    |some i=>
      obtain⟨j,x,rfl,M,B,F⟩:=pj A
      obtain⟨c,rfl⟩:∃c,co=some c:=by cases co with|none=>have:=q rfl;omega|some c=>exact⟨c,rfl⟩
      have t:x.2.length=128:=(l.cache x (lay B)).2
      have n:k.look a=x.2:=by unfold ak.look;rw[A];simp[B]
      rw[n]at y
      refine VC.cU rfl rfl (rfl) ?_
      refine w ?_
      refine VO.pure rfl rfl (.gY ah rfl rfl (aV.own (wq _) zm (cW _ (λc h=>fv (l.cache c h).2)) q) (Fv j x B (λc h=>(l.cache c h).2)) (by simp[t])) rfl ?_
      refine zq ?_
      refine ay.gL (vs:=bytes x.2) ah rfl rfl rfl (by simp[t]) (aQ _) zh (by simp[e]) ?_
      rw[tX _ _ 128 (by simp[e])]
      refine w ?_
      refine y.to 0 trivial ⟨rfl,trivial⟩ ?_;(try dsimp only);exact ae.re
  · intro _ _
    have z:=ak.r5 l v
    refine w ?_
    refine VO.pure rfl rfl (af.Nv (sz:=1) Tryz.underlying217 (by decide) (λw=>by simp) rfl) rfl ?_
    refine VO.re 41 (.slice (ik u) 128 128) rfl (by rw[qp]) ?_
    refine VO.aR (λw o=>bl.shut l w (o.fk (L:=nX d k ((some b,lc),(co,D),m) (Row u 217 (bytes (k.look a))::R)) (by(repeat first|exact .refl|(apply aP.cons;focus repeat first|exact .head|apply nW.tail)|exact .nil|apply aP.drop)))) ?_
    refine zr (s:=gg (aV.row (H:=bl d k::Row u 217 (bytes (k.look a))::R) (aQ _) (.tail _ (.head _)) (by simp[z])) (by decide)) (h:=?_)
    rintro⟨f,cap'⟩-
    refine VO.bH (λw o=>o.bn zm:∀w,_->(f=none->128=0)) ?_
    intro J
    obtain⟨p,rfl⟩:∃p,f=some p:=by cases f with|none=>have:=J rfl;omega|some p=>exact⟨p,rfl⟩
    refine w ?_
    exact VE.done (p,cap') rfl trivial rfl ae.re
def ak.rd(k:ak)(a:Int):List UInt8×Int:=if k.may a=0 then(k.look a.toNat,0)else([],k.may a)
def ak.wr(k:ak)(a:Int)(b:List UInt8):Int×ak:=if k.may a≠0 then(k.may a,k)else if b.length≠128 then(4,k)else(0,k.write a.toNat b)
def ak.fl(k:ak):Int×ak:=if k.failed then(2,k)else(0,k.settle λ_=>true)
def ak.fail(k:ak):ak:=(ak.mk k.last k.cache true).settle λ_=>false
def ak.blank(n:Nat):ak:=⟨List.replicate n bC,[],false⟩
abbrev sliceB(x:Option Addr×Nat)(l:List UInt8):Value:= .slice x.1 l.length x.2
theorem Ri{W:World}{R:List ab}(d:Nat)(k:ak)(a:Int):
  aq W Tryz.prog 253 [ip d,ii a] (bl d k::R) (β:=Option Addr×Nat) (λx=>x.1=none->(k.rd a).1.length=0) (λx=>.tuple #[sliceB x (k.rd a).1,i6 (k.rd a).2]) (λx=>b8 x (k.rd a).1::bl d k::R):=by
 by_cases h:k.may a=0
 ·
  obtain⟨g,f,l⟩:=xv h;obtain⟨n,rfl⟩:=RA f;have c:n<k.last.length:=by omega
  have e:k.rd (n:Int)=(k.look n,0):=by unfold ak.rd;rw[lam h];rfl
  rw[e];refine G3 (λw=>bl.bH) λi=>?_;have b:=ak.r5 i c;refine aq.mono (L0 d k n g c) (λx=>(some x.1,x.2)) (λ_ _ h=>by cases h) (λx _=>by simp only[sliceB,b]) λx _=>?_;simp only[b8,b];exact ae.refl
 ·
  have e:k.rd a=([],k.may a):=by unfold ak.rd;rw[aE h]
  rw[e];exact K3 (I4 d k a h) (none,0) (λ_=>rfl) rfl λw j=>j.aZ 5 1
theorem Rj{W:World}{R:List ab}{ao:Option Addr}{cap:Nat}{b:List UInt8}(d:Nat)(k:ak)(a:Int)(g:k.cache.length<=1000000000)(e:aV W R 1 ao b.length (bytes b)):
  az W Tryz.prog 79 [ip d,ii a,.slice ao b.length cap] (bl d k::R) (i6 (k.wr a b).1) (bl d (k.wr a b).2::R):=by
 unfold ak.wr;by_cases h:k.may a=0
 ·
  rw[aE (by simpa using h)];by_cases c:b.length=128
  ·
   rw[aE (by simpa using c)];obtain⟨i,f,j⟩:=xv h;obtain⟨n,rfl⟩:=RA f;rw[c]at e⊢;exact N7 d k n zO i c g e
  · rw[lam c];exact KH d k a h c
 · rw[lam h];exact KG d k a h
theorem Rf{W:World}{R:List ab}(d:Nat)(k:ak):
  az W Tryz.prog 88 [ip d] (bl d k::R) (i6 k.fl.1) (bl d k.fl.2::R):=by
 unfold ak.fl;cases h:k.failed
 · exact Ma d k h
 · exact Jd d k h
structure iQ where
  k:ak
  nT:Bool
  left:Int
structure gC where
  kx:Option iQ
  aside:Option iQ
  cY:Option iQ
structure Fa where
  r:Int
  w:Int
  f:Int
structure aw where
  bh:List gC
  rQ:Bool
  c8:Int
  n:Fa
structure iR where
  r:Nat
  d:Nat
  v:iQ
structure aT where
  kx:Option iR
  aside:Option iR
  cY:Option iR
def aT.D(s:aT):gC:=⟨s.kx.map iR.v,s.aside.map iR.v,s.cY.map iR.v⟩
abbrev dw(p:Option iR):Value:= .pointer (p.map λx=>⟨x.r,0,none⟩)
def aW(s:aT):List Value:=[dw s.kx,dw s.aside,dw s.cY]
theorem tU(s:aT):(aW s).length=3:=rfl
theorem yY(l:List aT):∀u∈l.flatMap aW,u.oneCell'=true:=by
 intro u a;obtain⟨s,_,h⟩:=Ai.1 a;simp only[aW,List.mem_cons,TW,or_false]at h;rcases h with h|h|h<;>subst h<;>rfl
abbrev oJ(p:iR):ab:=Row p.r 113 [ip p.d,.bool p.v.nT,ii p.v.left]
def bD:Option iR->ab
  |none=>fact True
  |some p=>Sl.star [oJ p,bl p.d p.v.k]
def bI(s:aT):ab:=Sl.star [bD s.kx,bD s.aside,bD s.cY]
abbrev dA(b:Nat)(D:aw)(a:Addr)(n:Nat):ab:=Row b 107 [.slice (some a) n n,.bool D.rQ,ii D.c8,ii D.n.r,ii D.n.w,ii D.n.f]
abbrev cM(a:Addr)(sp:List aT):ab:=Own 115 3 (.slice (some a) sp.length sp.length) sp.length (sp.flatMap aW)
abbrev rB(b:Nat)(D:aw)(a:Addr)(sp:List aT)(R:List ab):List ab:=dA b D a sp.length::cM a sp::(sp.map bI++R)
def al(b:Nat)(D:aw):ab:=ex λx:Addr×List aT=>Sl.star (fact (D.bh=x.2.map aT.D/\x.2.length<=17)::rB b D x.1 x.2 [])
theorem al.open{W w:World}{b:Nat}{D:aw}{R:List ab}(a:Holds W (al b D::R) w):∃x:{x:Addr×List aT//D.bh=x.2.map aT.D/\x.2.length<=17},Holds W (rB b D x.1.1 x.1.2 R) w:=by
 obtain⟨x,h⟩:=a.gW;have h:=h.join;refine⟨⟨x,h.iX⟩,?_⟩;have h:=h.tail;have e:rB b D x.1 x.2 []++R=rB b D x.1 x.2 R:=by simp only[rB,QD,lx,ou]
 rw[<-e];exact h
theorem al.shut{W:World}{b:Nat}{D:aw}{R:List ab}{a:Addr}{sp:List aT}(c:D.bh=sp.map aT.D)(d:sp.length<=17):ae W (rB b D a sp R) (al b D::R):=λw e=>
 Holds.dU (a,sp) (Holds.nest (L:=fact _::rB b D a sp []) (by
  have h:Holds W (fact (D.bh=sp.map aT.D/\sp.length<=17)::rB b D a sp R) w:=e.gG ⟨c,d⟩
  simpa only[rB,QD,lx,ou]using h))
theorem P3{W:World}(a b:List aT)(s:aT)(R:List ab):ae W ((a++s::b).map bI++R) (bD s.kx::bD s.aside::bD s.cY::((a++b).map bI++R)):=λw c=>by
 have p:((a++s::b).map bI++R).Perm (bI s::((a++b).map bI++R)):=by
  simp only[jv,BI,lx,QD];exact xb
 exact(c.perm p).join
theorem Sw{W:World}(a b:List aT)(s:aT)(R:List ab):ae W (bD s.kx::bD s.aside::bD s.cY::((a++b).map bI++R)) ((a++s::b).map bI++R):=λw c=>by
 have p:(bI s::((a++b).map bI++R)).Perm ((a++s::b).map bI++R):=by
  simp only[jv,BI,lx,QD];exact List.perm_middle.symm
 exact(Holds.nest (L:=[_,_,_]) c).perm p
theorem FB{W:World}(p:iR)(R:List ab):ae W (bD (some p)::R) (oJ p::bl p.d p.v.k::R):=λw a=>Holds.join (L:=[_,_]) a
theorem zF{W:World}(p:iR)(R:List ab):ae W (oJ p::bl p.d p.v.k::R) (bD (some p)::R):=λw a=>Holds.nest (L:=[_,_]) a
theorem pN{W:World}(R:List ab):ae W R (bD none::R):=λw a=>a.gG trivial
theorem O0{W:World}(p:Option iR)(R:List ab):ae W (bD p::R) R:=λw a=>a.tail
def dX(n:Nat)(k:Int):Bool:=decide (0<=k/\k<(n:Int))
def pn(a:Addr)(n:Nat)(k:Int):Option Addr:=if dX n k then some (a.add (k.toNat*3))else none
def BC(sp:List aT)(k:Int):Option iR:=if 0<=k then(sp[k.toNat]?).bind aT.kx else none
def aw.dev(D:aw)(k:Int):Option iQ:=if 0<=k then(D.bh[k.toNat]?).bind gC.kx else none
theorem wS{D:aw}{sp:List aT}(h:D.bh=sp.map aT.D)(k:Int):D.dev k=(BC sp k).map iR.v:=by
 unfold aw.dev BC;split
 ·
  rw[h,law];cases sp[k.toNat]? with
  |none=>rfl
  |some s=>rfl
 · rfl
theorem Aa{sp:List aT}{k:Int}(h:dX sp.length k=false):BC sp k=none:=by
 unfold dX at h;have h:=dx h;unfold BC;split
 · rw[Ry zO];rfl
 · rfl
theorem rK{W:World}{R:List ab}{D:aw}{a:Addr}{n:Nat}(b:Nat)(k:Int)(g:n<=17):
  az W Tryz.prog 137 [ip b,ii k] (dA b D a n::R) (.pointer (pn a n k)) (dA b D a n::R):=by
 refine ze Tryz.func137 Tryz.ntmps137 ?_;refine zg ?_ ?_<;>intro c
 ·
  have h:k<0:=cI c;refine w ?_;refine VE.ax rfl ?_ ?_
  · unfold pn dX;rw[aE (by simp;omega)]
  · exact ae.refl
 have e:¬k<0:=dx c;refine w ?_;refine zk ?_ ?_<;>intro d
 ·
  have h:(n:Int)<=k:=by simpa using d
  refine w ?_;refine VE.ax rfl ?_ ?_
  · unfold pn dX;rw[aE (by simp;omega)]
  · exact ae.refl
 have f:¬(n:Int)<=k:=by simpa using d
 obtain⟨i,rfl⟩:=RA (show 0<=k by omega);refine w ?_;refine VE.ax rfl ?_ ?_
 · unfold pn dX;rw[lam (by simp;omega)];rfl
 · exact ae.refl
theorem gR{W:World}{H:List ab}{a:Addr}{sp:List aT}(m:cM a sp∈H):aV W H 3 (some a) sp.length (sp.flatMap aW):=
 aV.own (yY _) m (cW _ λ_ _=>rfl) (λh=>by cases h)
theorem mN(sp:List aT)(i j:Nat)(h:i<sp.length)(a:j<3):(sp.flatMap aW)[i*3+j]?=(aW sp[i])[j]? :=by
 rw[<-dW (g:=aW) (w:=3) sp i h (λ_ _=>rfl),Oc,lam a,Od]
theorem Rv{sp:List aT}{i:Nat}(h:i<sp.length):BC sp (i:Int)=sp[i].kx:=by
 unfold BC;rw[lam zO,Int.toNat_natCast,fL h];rfl
theorem wi{W:World}{R:List ab}{D:aw}{a:Addr}{sp:List aT}(b:Nat)(k:Int)(f:sp.length<=17):
  az W Tryz.prog 73 [ip b,ii k] (dA b D a sp.length::cM a sp::R) (dw (BC sp k)) (dA b D a sp.length::cM a sp::R):=by
 (refine aq.enter Tryz.func73 Tryz.ntmps73 rfl rfl ?_);refine zr (s:=rK (D:=D) (a:=a) (n:=sp.length) b k f) (h:=?_);intro _ _;refine w ?_;unfold pn;cases d:dX sp.length k
 ·
  refine w ?_;refine VE.ax rfl ?_ ?_
  · rw[Aa d];rfl
  · exact ae.refl
 ·
  obtain⟨e,g⟩:0<=k/\k<(sp.length:Int):=cI d;obtain⟨i,rfl⟩:=RA e;have c:i<sp.length:=by omega
  refine w ?_;refine VO.pure rfl rfl (.fH ah rfl rfl (gR zm) ((mN sp i 0 c (by decide)).trans rfl)) rfl ?_;refine w ?_;refine VE.ax rfl ?_ ?_
  · rw[Rv c]
  · exact ae.refl
def iA(n:Nat)(p:Bool)(k:Int):Int:=if dX n k then(if p then 0 else 51)else 1
theorem ui{W:World}{R:List ab}{D:aw}{a:Addr}{sp:List aT}(b:Nat)(k:Int)(c:sp.length<=17):
  az W Tryz.prog 112 [ip b,ii k] (dA b D a sp.length::cM a sp::R) (.tuple #[dw (BC sp k),i6 (iA sp.length (BC sp k).isSome k)]) (dA b D a sp.length::cM a sp::R):=by
 (refine aq.enter Tryz.func112 Tryz.ntmps112 rfl rfl ?_);refine zr (s:=wi (D:=D) (a:=a) (sp:=sp) b k c) (h:=?_);intro _ _;refine zr (s:=rK (D:=D) (a:=a) (n:=sp.length) b k c) (h:=?_);intro _ _;refine w ?_;unfold pn iA;cases d:dX sp.length k
 ·
  refine w ?_;refine VE.ax rfl ?_ ?_
  · rw[Aa d];rfl
  · exact ae.refl
 ·
  refine w ?_;cases e:BC sp k
  ·
   refine w ?_;refine VE.ax rfl ?_ ?_
   · rfl
   · exact ae.refl
  ·
   refine w ?_;refine VE.ax rfl ?_ ?_
   · rfl
   · exact ae.refl
theorem mG{sp:List aT}{k:Int}{p:iR}(h:BC sp k=some p):∃(b:List aT)(s:aT)(f:List aT),sp=b++s::f/\k=(b.length:Int)/\s.kx=some p:=by
  unfold BC at h;split at h
  · rename_i c
    obtain⟨i,rfl⟩:=RA c
    rw[Int.toNat_natCast]at h
    cases a:sp[i]? with
    |none=>rw[a]at h;cases h
    |some s=>
      rw[a]at h
      obtain⟨d,e⟩:=HE.1 a
      refine⟨sp.take i,s,sp.drop (i+1),?_,by rw[j1,Nat.min_eq_left zO],h⟩
      rw[<-e,<-vE d,QB]
  · cases h
abbrev AY(b:Nat)(D:aw)(a:Addr)(c:List aT)(s:aT)(d:List aT)(R:List ab):List ab:=
  bD s.aside::bD s.cY::dA b D a (c++s::d).length::cM a (c++s::d)::((c++d).map bI++R)
theorem Fp{W:World}{b:Nat}{D:aw}{a:Addr}{c d:List aT}{s:aT}{R:List ab}:ae W (rB b D a (c++s::d) R) (bD s.kx::AY b D a c s d R):=λw e=>by
 have f:(rB b D a (c++s::d) R).Perm ((c++s::d).map bI++(dA b D a (c++s::d).length::cM a (c++s::d)::R)):=by
  refine List.Perm.trans ?_ List.perm_middle.symm;exact List.Perm.cons _ List.perm_middle.symm
 have h:=P3 c d s _ w (e.perm f);refine h.perm (List.Perm.cons _ (List.Perm.cons _ (List.Perm.cons _ ?_)));refine List.Perm.trans xb ?_;exact List.Perm.cons _ xb
theorem CW{W:World}{b:Nat}{D:aw}{a:Addr}{c d:List aT}{s:aT}{R:List ab}:ae W (bD s.kx::AY b D a c s d R) (rB b D a (c++s::d) R):=λw e=>by
 have f:(rB b D a (c++s::d) R).Perm ((c++s::d).map bI++(dA b D a (c++s::d).length::cM a (c++s::d)::R)):=by
  refine List.Perm.trans ?_ List.perm_middle.symm;exact List.Perm.cons _ List.perm_middle.symm
 have g:(bD s.kx::bD s.aside::bD s.cY::((c++d).map bI++(dA b D a (c++s::d).length::cM a (c++s::d)::R))).Perm (bD s.kx::AY b D a c s d R):=by
  refine List.Perm.cons _ (List.Perm.cons _ (List.Perm.cons _ ?_));refine List.Perm.trans xb ?_;exact List.Perm.cons _ xb
 exact(Sw c d s _ w (e.perm g.symm)).perm f.symm
theorem rJ{W:World}{b:Nat}{D:aw}{a:Addr}{c d:List aT}{s:aT}{R:List ab}{p:iR}(e:s.kx=some p):ae W (rB b D a (c++s::d) R) (oJ p::bl p.d p.v.k::AY b D a c s d R):=λw f=>by
 have h:=Fp w f;rw[e]at h;exact FB p _ w h
theorem Be{W:World}{b:Nat}{D D':aw}{a:Addr}{c d:List aT}{s:aT}{R:List ab}{p:iR}(i:s.kx=some p)(v:iQ)(g:D'.bh=(c++{s with kx:=some ⟨p.r,p.d,v⟩}::d).map aT.D)(h:(c++s::d).length<=17):
  ae W (oJ ⟨p.r,p.d,v⟩::bl p.d v.k::AY b D' a c s d R) (al b D'::R):=λw j=>by
 have e:(c++{s with kx:=some ⟨p.r,p.d,v⟩}::d).length=(c++s::d).length:=by simp
 have f:cM a (c++{s with kx:=some ⟨p.r,p.d,v⟩}::d)=cM a (c++s::d):=by
  unfold cM;rw[e];congr 1;simp only[E5,Oi];congr 2;simp[aW,dw,i]
 refine al.shut (a:=a) g (by rw[e];exact h) w ?_;refine CW w ?_;refine zF ⟨p.r,p.d,v⟩ _ w ?_;simp only[AY,e,f];exact j
def aw.j5(D:aw)(i:Nat)(v:iQ):aw:={D with bh:=D.bh.set i {(D.bh[i]?.getD ⟨none,none,none⟩)with kx:=some v}}
theorem uI{D:aw}{a b:List aT}{s:aT}{p:iR}(h:D.bh=(a++s::b).map aT.D)(v:iQ):(D.j5 a.length v).bh=(a++{s with kx:=some ⟨p.r,p.d,v⟩}::b).map aT.D:=by
 unfold aw.j5;simp only[h,jv,BI];rw[KR _ _ (by simp),Ob (by simp)];simp[aT.D]
theorem zc{W:World}{R:List ab}(b:Nat)(D:aw)(k:Int):
    az W Tryz.prog 47 [ip b,ii k] (al b D::R) (.bool ((D.dev k).any λv=>!v.k.failed)) (al b D::R):=by
  (refine aq.enter Tryz.func47 Tryz.ntmps47 rfl rfl ?_);refine VC.obtain (λw=>al.open) ?_;rintro⟨⟨a,sp⟩,c,d⟩;dsimp only at c d⊢;refine zr (s:=wi (D:=D) (a:=a) (sp:=sp) b k d) (h:=?_);intro _ _;refine w ?_;rw[wS c];cases f:BC sp k with
  |none=>
    refine w ?_;refine VE.ax rfl ?_ ?_
    · rfl
    · exact al.shut c d
  |some p=>
    obtain⟨g,s,i,rfl,rfl,e⟩:=mG f;dsimp only[dw,Option.map_some,Option.isNone_some,Bool.not_false];refine VO.aR (rJ e) ?_;refine zr (s:=zM p.d p.v.k) (h:=?_);intro _ _;refine w ?_;refine VE.ax rfl ?_ ?_
    · rfl
    · refine ae.trans ae.re (Be (D:=D) (p:=p) e p.v ?_ d)
      rw[c];simp[aT.D,e]
theorem jS{W:World}{R:List ab}(b:Nat)(D:aw)(k:Int):
    az W Tryz.prog 48 [ip b,ii k] (al b D::R) (ii ((D.dev k).elim 0 λv=>v.k.last.length)) (al b D::R):=by
  (refine aq.enter Tryz.func48 Tryz.ntmps48 rfl rfl ?_);refine VC.obtain (λw=>al.open) ?_;rintro⟨⟨a,sp⟩,c,d⟩;dsimp only at c d⊢;refine zr (s:=wi (D:=D) (a:=a) (sp:=sp) b k d) (h:=?_);intro _ _;rw[wS c];cases f:BC sp k with
  |none=>
    dsimp only[dw,Option.map_none];refine w ?_;refine VE.ax rfl ?_ ?_
    · rfl
    · exact al.shut c d
  |some p=>
    obtain⟨g,s,i,rfl,rfl,e⟩:=mG f;dsimp only[dw,Option.map_some,Option.isNone_some,Bool.not_false];refine w ?_;refine VO.aR (rJ e) ?_;refine zr (s:=Dd p.d p.v.k) (h:=?_);intro _ _;refine w ?_;refine VE.ax rfl ?_ ?_
    · rfl
    · refine ae.trans ae.re (Be (D:=D) (p:=p) e p.v ?_ d)
      rw[c];simp[aT.D,e]
abbrev T8(c:Fa):Value:= .agg #[ii c.r,ii c.w,ii c.f]
theorem Bf{W:World}{R:List ab}(b:Nat)(D:aw):
  az W Tryz.prog 40 [ip b] (al b D::R) (T8 D.n) (al b D::R):=by
 (refine aq.enter Tryz.func40 Tryz.ntmps40 rfl rfl ?_);refine VC.obtain (λw=>al.open) ?_;rintro⟨⟨a,sp⟩,c,d⟩;dsimp only at c d⊢;refine zw ?_;refine ay.aB sb_98 rfl ?_;intro e;refine zS ([ii D.n.r,ii D.n.w,ii D.n.f]) ?_;refine VE.results1 (.inl rfl) () rfl (aL.agg (vs:=[ii D.n.r,ii D.n.w,ii D.n.f]) ah rfl rfl (.head _) rfl rfl) trivial rfl ?_;exact ae.drop (al.shut c d)
def iQ.use(v:iQ):iQ:=if v.nT=false then v else if v.left=0 then⟨v.k.fail,false,v.left⟩else⟨v.k,v.nT,IntKind.i64.wrap (v.left-1)⟩
abbrev fC(d:Nat)(v:iQ):List Value:=[ip d,.bool v.nT,ii v.left]
theorem SH{W:World}{R:List ab}(r d:Nat)(v:iQ):
  az W Tryz.prog 139 [ip r] (Row r 113 (fC d v)::bl d v.k::R) (.tuple #[]) (Row r 113 (fC d v.use)::bl d v.use.k::R):=by
 (refine aq.enter Tryz.func139 Tryz.ntmps139 rfl rfl ?_);unfold iQ.use;refine w ?_;refine zk ?_ ?_<;>intro a
 ·
  have c:v.nT=false:=by simpa using a
  refine w ?_;refine VE.b9 rfl ?_ ?_
  · rfl
  · rw[lam c];exact ae.refl
 ·
  have c:v.nT≠false:=by simpa using a
  rw[aE c];refine w ?_;refine zk ?_ ?_<;>intro a
  ·
   have b:v.left=0:=by simpa using a
   refine zr (s:=Hu d v.k) (h:=?_);intro _ _;refine w ?_;refine VE.b9 rfl ?_ ?_
   · rfl
   · rw[lam b];exact ae.re
  ·
   have b:¬v.left=0:=by simpa using a
   refine w ?_;refine VE.b9 rfl ?_ ?_
   · rfl
   · rw[aE b];exact ae.re
def aw.pow(D:aw):aw:=if D.c8=0 then{D with rQ:=true,c8:=-1}else D
def Fa.inc(c:Fa):Nat->Fa
  |0=>{c with r:=IntKind.i64.wrap (c.r+1)}
  |1=>{c with w:=IntKind.i64.wrap (c.w+1)}
  |_=>{c with f:=IntKind.i64.wrap (c.f+1)}
def aw.less(D:aw):aw:={D with c8:=if 0<D.c8 then IntKind.i64.wrap (D.c8-1)else D.c8}
def aw.step(D:aw)(j:Nat):aw:={D with c8:=if 0<D.c8 then IntKind.i64.wrap (D.c8-1)else D.c8,n:=D.n.inc j}
def aw.refuse(D:aw)(k:Int):Int:=if dX D.bh.length k=false then 1 else if D.pow.rQ then 50 else iA D.bh.length (D.dev k).isSome k
def aw.ahead(D:aw)(k:Int)(j:Nat):aw:=if dX D.bh.length k=false then D else if D.pow.rQ then D.pow else D.pow.step j
theorem aw.tB(D:aw):D.pow.bh=D.bh:=by unfold aw.pow;split<;>rfl
theorem aw.CK(D:aw)(k:Int)(j:Nat):(D.ahead k j).bh=D.bh:=by
 unfold aw.ahead;split
 · rfl
 ·
  split
  · exact D.tB
  · exact D.tB
theorem IN{W:World}{R:List ab}(b:Nat):az W Tryz.prog 251 [.pointer (some ⟨b,3,none⟩)] R (.pointer (some ⟨b,3+0,none⟩)) R:=by
 refine ze Tryz.func251 Tryz.ntmps251 ?_;exact VE.ax rfl rfl ae.refl
theorem KK{W:World}{R:List ab}(b:Nat):az W Tryz.prog 77 [.pointer (some ⟨b,3,none⟩)] R (.pointer (some ⟨b,3+1,none⟩)) R:=by
 refine ze Tryz.func77 Tryz.ntmps77 ?_;exact VE.ax rfl rfl ae.refl
theorem FJ{W:World}{R:List ab}(b:Nat):az W Tryz.prog 86 [.pointer (some ⟨b,3,none⟩)] R (.pointer (some ⟨b,3+2,none⟩)) R:=by
 refine ze Tryz.func86 Tryz.ntmps86 ?_;exact VE.ax rfl rfl ae.refl
def aw.dv(D:aw)(k:Int):iQ:=((D.dev k).getD ⟨⟨[],[],false⟩,false,0⟩).use
theorem wT{a b:List aT}{s:aT}:dX (a++s::b).length (a.length:Int)=true:=by unfold dX;simp;omega
theorem q6{W:World}{R:List ab}{gd gc:FuncId}{cp:Array Value}{γ:Type}{A:γ->Prop}{res:γ->Value}{G:γ->List ab}{kf:ak->ak}(b:Nat)(D:aw)(k:Int)(j:Nat)(Q:j<3)
    (t:∀a w,(callFunc gc a).run Tryz.prog w= .ok (.enter gc a) w)(J:∀a w,(callFunc gd a).run Tryz.prog w= .ok (.enter gd a) w)
    (c:∀X:List ab,az W Tryz.prog gc [.pointer (some ⟨b,3,none⟩)] X (.pointer (some ⟨b,3+j,none⟩)) X)
    (e:∀(r d:Nat),(D.dev k).isSome=true->D.refuse k=0->∀X:List ab,aq W Tryz.prog gd (ip r::cp.toList) (Row r 113 (fC d (D.dv k))::bl d (D.dv k).k::(X++R)) A res (λx=>Row r 113 (fC d (D.dv k))::bl d (kf (D.dv k).k)::(X++G x))):
    aq W Tryz.prog 76 [ip b,ii k,.func (.func gc) #[] #[],.func (.func gd) #[] cp] (al b D::R) (β:=Option γ)
      (λx=>x.elim (D.refuse k≠0) λy=>D.refuse k=0/\A y) (λx=>x.elim (i6 (D.refuse k)) res)
      (λx=>x.elim (al b (D.ahead k j)::R) λy=>al b ((D.ahead k j).j5 k.toNat ⟨kf (D.dv k).k,(D.dv k).nT,(D.dv k).left⟩)::G y):=by
  (refine aq.enter Tryz.func76 Tryz.ntmps76 rfl rfl ?_);refine VC.obtain (λw=>al.open) ?_;rintro⟨⟨a,sp⟩,o,q⟩;dsimp only at o q⊢;have u:D.bh.length=sp.length:=by rw[o,ew]
  refine zr (s:=rK (D:=D) (a:=a) (n:=sp.length) b k q) (h:=?_);intro _ _;unfold pn;cases f:dX sp.length k
  · refine w ?_
    have E:D.refuse k=1:=by unfold aw.refuse;rw[u,lam f]
    refine VE.done none rfl (by rw[Option.elim_none,E];decide) (by rw[Option.elim_none,E]) ?_
    unfold aw.ahead;rw[Option.elim_none,u,lam f];exact al.shut o q
  refine w ?_;refine VC.Qx (α:=Unit) (λ_=>True) (λ_=>dA b D.pow a sp.length::cM a sp::(sp.map bI++R)) (λ_=>[(0,ip b),(1,ii k),(2,.func (.func gc) #[] #[]),(3,.func (.func gd) #[] cp)]) ?_ ?_
  · intro L i
    refine zk ?_ ?_<;>intro l
    · have m:D.c8=0:=by simpa using l
      refine w ?_
      refine i.to () trivial ⟨rfl,rfl,rfl,rfl,trivial⟩ ?_
      unfold aw.pow;rw[lam m];exact ae.re
    · have m:¬D.c8=0:=by simpa using l
      refine w ?_
      refine i.to () trivial ⟨rfl,rfl,rfl,rfl,trivial⟩ ?_
      unfold aw.pow;rw[aE m];exact ae.re
  intro _ _;refine w ?_;have z:D.pow.bh=sp.map aT.D:=by rw[D.tB,o]
  refine zk ?_ ?_<;>intro l
  · have g:D.pow.rQ=true:=l
    refine w ?_
    have E:D.refuse k=50:=by unfold aw.refuse;rw[u,aE (by simp[f]),lam g]
    refine VE.done none rfl (by rw[Option.elim_none,E];decide) (by rw[Option.elim_none,E]) ?_
    unfold aw.ahead;rw[Option.elim_none,u,aE (by simp[f]),lam g];exact al.shut z q
  have g:¬D.pow.rQ=true:=by simpa using l
  have I:D.ahead k j=D.pow.step j:=by unfold aw.ahead;rw[u,aE (by simp[f]),aE g]
  rw[I];generalize O:D.pow=Pw at*;refine w ?_;refine VC.join (α:=Unit) (λ_=>True) (λ_=>dA b Pw.less a sp.length::cM a sp::(sp.map bI++R)) (λ_=>[(0,ip b),(1,ii k),(2,.func (.func gc) #[] #[]),(3,.func (.func gd) #[] cp)]) ?_ ?_
  · intro L i
    refine zk ?_ ?_<;>intro l
    · have m:0<Pw.c8:=cI l
      refine w ?_
      refine i.to () trivial ⟨rfl,rfl,rfl,rfl,trivial⟩ ?_
      unfold aw.less;rw[lam m];exact ae.re
    · have m:¬0<Pw.c8:=dx l
      refine w ?_
      refine i.to () trivial ⟨rfl,rfl,rfl,rfl,trivial⟩ ?_
      unfold aw.less;rw[aE m];exact ae.re
  intro _ _;refine VC.seq rfl ?_;refine VC.join (α:=Unit) (λ_=>True) (λ_=>dA b (Pw.step j) a sp.length::cM a sp::(sp.map bI++R)) (λ_=>[(0,ip b),(1,ii k),(3,.func (.func gd) #[] cp)]) ?_ ?_
  · intro L i
    rcases(show j=0\/j=1\/j=2 by omega)with rfl|rfl|rfl
    · refine zw ?_
      refine ay.call rfl rfl t (c _) ae.refl rfl ?_
      intro _ _
      refine w ?_
      exact i.to () trivial ⟨rfl,rfl,rfl,trivial⟩ ae.re
    · refine zw ?_
      refine ay.call rfl rfl t (c _) ae.refl rfl ?_
      intro _ _
      refine w ?_
      exact i.to () trivial ⟨rfl,rfl,rfl,trivial⟩ ae.re
    · refine zw ?_
      refine ay.call rfl rfl t (c _) ae.refl rfl ?_
      intro _ _
      refine w ?_
      exact i.to () trivial ⟨rfl,rfl,rfl,trivial⟩ ae.re
  intro _ _;refine w ?_;have B:(Pw.step j).bh=sp.map aT.D:=z;refine zr (s:=ui (D:=Pw.step j) (a:=a) (sp:=sp) b k q) (h:=?_);intro _ _;have K:D.refuse k=iA sp.length (BC sp k).isSome k:=by unfold aw.refuse;rw[u,aE (by simp[f]),O,aE g,wS o,Option.isSome_map]
  have C:D.dv k=(((BC sp k).map iR.v).getD ⟨⟨[],[],false⟩,false,0⟩).use:=by unfold aw.dv;rw[wS o]
  rw[wS o,C]at e;rw[C];rw[K]at e⊢;cases M:BC sp k with
  |none=>
    dsimp only[dw,Option.map_none,Option.isSome_none];have F:iA sp.length false k≠0:=by unfold iA;split<;>simp
    refine w ?_;refine VC.cU rfl rfl (by simpa using F) ?_;refine w ?_;refine VE.done none rfl (by simpa using F) rfl ?_;exact al.shut B q
  |some p=>
    obtain⟨v,s,H,rfl,rfl,N⟩:=mG M;dsimp only[dw,Option.map_some,Option.isSome_some,Option.getD_some];have F:iA (v++s::H).length true (v.length:Int)=0:=by unfold iA;rw[wT];rfl
    rw[M]at e;dsimp only[Option.map_some,Option.isSome_some,Option.getD_some]at e;rw[F]at e⊢;refine w ?_;refine VO.aR (rJ N) ?_;refine zr (s:=SH p.r p.d p.v) (h:=?_);intro _ _;refine zw ?_;refine ay.call rfl rfl J (e p.r p.d rfl rfl (bD s.aside::bD s.cY::dA b (Pw.step j) a (v++s::H).length::cM a (v++s::H)::(v++H).map bI)) ?_ rfl ?_
    · exact ae.refl
    intro y P;refine w ?_;refine VE.done (some y) rfl ⟨rfl,P⟩ rfl ?_;exact Be (b:=b) (a:=a) (R:=G y) (D:=Pw.step j) (D':=(Pw.step j).j5 v.length ⟨kf p.v.use.k,p.v.use.nT,p.v.use.left⟩) (p:=p) N ⟨kf p.v.use.k,p.v.use.nT,p.v.use.left⟩ (uI (p:=p) (D:=Pw.step j) B _) q
theorem Eh{W:World}{A B C:ab}(X R:List ab):ae W (C::A::B::(X++R)) (A::B::(X++(C::R))):=λw a=>a.perm (by
 refine List.Perm.symm (List.Perm.trans (List.Perm.cons _ (List.Perm.cons _ xb)) ?_)
 exact List.Perm.trans (List.Perm.cons _ (List.Perm.swap _ _ _)) (List.Perm.swap _ _ _))
theorem TC{W:World}{A B C D E:ab}(X R:List ab):ae W (C::D::E::A::B::(X++R)) (A::B::(X++(C::D::E::R))):=λw b=>by
 have e:=Eh (W:=W) (A:=A) (B:=B) (C:=E) X R;have f:=Eh (W:=W) (A:=A) (B:=B) (C:=D) X (E::R);have a:=Eh (W:=W) (A:=A) (B:=B) (C:=C) X (D::E::R)
 have c:=ae.ctx (X:=[C,D]) (L:=E::A::B::X) (L':=A::B::(X++[E])) (R:=R) (by
  have:=Eh (W:=W) (A:=A) (B:=B) (C:=E) X ([C,D]++R)
  simpa using this)
 have d:=ae.ctx (X:=[C]) (L:=D::A::B::X) (L':=A::B::(X++[D])) (R:=E::R) (by
  have:=Eh (W:=W) (A:=A) (B:=B) (C:=D) X ([C]++(E::R))
  simpa using this)
 exact a w (by simpa using d w (by simpa using c w b))
theorem QI{W:World}{A B C D:ab}(X R:List ab):ae W (A::B::(X++(C::D::R))) (C::D::A::B::(X++R)):=λw a=>a.perm (by
 have b:(X++(C::D::R)).Perm (C::D::(X++R)):=List.Perm.trans xb (List.Perm.cons _ xb)
 refine List.Perm.trans (List.Perm.cons _ (List.Perm.cons _ b)) ?_
 exact List.Perm.append_right (X++R) (show[A,B,C,D].Perm [C,D,A,B]from List.perm_append_comm (l₁:=[A,B]) (l₂:=[C,D])))
theorem TB{W:World}{A B C D:ab}(X R:List ab):ae W (C::D::A::B::(X++R)) (A::B::(X++(C::D::R))):=λw a=>a.perm (by
 have b:(X++(C::D::R)).Perm (C::D::(X++R)):=List.Perm.trans xb (List.Perm.cons _ xb)
 refine List.Perm.symm (List.Perm.trans (List.Perm.cons _ (List.Perm.cons _ b)) ?_)
 exact List.Perm.append_right (X++R) (show[A,B,C,D].Perm [C,D,A,B]from List.perm_append_comm (l₁:=[A,B]) (l₂:=[C,D])))
theorem Na{W:World}{R:List ab}(r d b bd:Nat)(v:iQ)(k:ak)(a:Int)(X:List ab):
  aq W Tryz.prog 252 [ip r,ip b,ip bd] (Row r 113 (fC d v)::bl d k::(X++(Row b 3 [ii a]::Row bd 38 [.slice none 0 0]::R)))
   (β:=Option Addr×Nat) (λx=>x.1=none->(k.rd a).1.length=0) (λ_=>i6 (k.rd a).2)
   (λx=>Row r 113 (fC d v)::bl d k::(X++(Row b 3 [ii a]::Row bd 38 [sliceB x (k.rd a).1]::b8 x (k.rd a).1::R))):=by
 (refine aq.enter Tryz.func252 Tryz.ntmps252 rfl rfl ?_);refine VC.aR (QI X R) ?_;refine w ?_;refine zx [5,9] 10 [0,1,2,3,4,5,6,7,8,9,10] (bl d k::Row b 3 [ii a]::Row r 113 (fC d v)::(X++R)) ?_;refine zr (s:=Ri d k a) (h:=?_);intro x c;refine w ?_;exact VE.done x rfl c rfl (ae.trans ae.re (TC X R))
def aw.read(D:aw)(k a:Int):(List UInt8×Int)×aw:=
  if D.refuse k=0 then((D.dv k).k.rd a,(D.ahead k 0).j5 k.toNat (D.dv k))else(([],D.refuse k),D.ahead k 0)
def aw.write(D:aw)(k a:Int)(b:List UInt8):Int×aw:=
  if D.refuse k=0 then(((D.dv k).k.wr a b).1,(D.ahead k 1).j5 k.toNat ⟨((D.dv k).k.wr a b).2,(D.dv k).nT,(D.dv k).left⟩)else(D.refuse k,D.ahead k 1)
def aw.flush(D:aw)(k:Int):Int×aw:=
  if D.refuse k=0 then((D.dv k).k.fl.1,(D.ahead k 2).j5 k.toNat ⟨(D.dv k).k.fl.2,(D.dv k).nT,(D.dv k).left⟩)else(D.refuse k,D.ahead k 2)
theorem nk{W:World}{R:List ab}(b:Nat)(D:aw)(k a:Int):
    aq W Tryz.prog 179 [ip b,ii k,ii a] (al b D::R) (β:=Option Addr×Nat) (λx=>x.1=none->(D.read k a).1.1.length=0) (λx=>.tuple #[sliceB x (D.read k a).1.1,i6 (D.read k a).1.2]) (λx=>b8 x (D.read k a).1.1::al b (D.read k a).2::R):=by
  refine ze Tryz.func179 Tryz.ntmps179 ?_;refine zj λ_=>?_;refine w ?_;rename_i c;refine zq ?_;refine ay.alloc TP rfl rfl ?_;intro bd;refine w ?_;refine VO.pure rfl rfl (af.bB rfl) rfl ?_;refine w ?_;refine VO.aR (aP.aR (L:=al b D::Row c 3 [ii a]::Row bd 38 [.slice none 0 0]::R) (by(repeat first|exact .refl|(apply aP.cons;focus repeat first|exact .head|apply nW.tail)|exact .nil|apply aP.drop))) ?_;refine zt (s:=q6 (gd:=252) (gc:=251) (cp:=#[ip c,ip bd]) (kf:=id) (R:=Row c 3 [ii a]::Row bd 38 [.slice none 0 0]::R) b D k 0 (by decide) (λ_ _=>by simp) (λ_ _=>by simp) (λX=>IN b) (λr d j e X=>Na r d c bd (D.dv k) (D.dv k).k a X)) (h:=?_);intro y f;unfold aw.read;cases y with
  |none=>
    have e:D.refuse k≠0:=f;dsimp only[Option.elim_none];rw[aE e];refine w ?_;refine VE.results2 (.inl rfl) (none,0) rfl (aL.leaf ah rfl rfl zm rfl) (.tmp rfl) (λ_=>rfl) rfl ?_;exact ae.trans (ae.re (L:=al b (D.ahead k 0)::R)) λw g=>g.aZ 5 1
  |some x=>
    obtain⟨e,i⟩:D.refuse k=0/\(x.1=none->((D.dv k).k.rd a).1.length=0):=f;dsimp only[Option.elim_some];rw[lam e];refine w ?_;exact VE.results2 (.inl rfl) x rfl (aL.leaf ah rfl rfl zm rfl) (.tmp rfl) i rfl ae.re
theorem KI{W:World}{R:List ab}{ao:Option Addr}{cap:Nat}{l:List UInt8}(r d c bd:Nat)(v:iQ)(k:ak)(a:Int)(e:k.cache.length<=1000000000)(f:Im W 1 ao l.length (bytes l)\/aV W R 1 ao l.length (bytes l))(X:List ab):
  aq W Tryz.prog 78 [ip r,ip c,ip bd] (Row r 113 (fC d v)::bl d k::(X++(Row c 3 [ii a]::Row bd 38 [.slice ao l.length cap]::R)))
   (β:=Unit) (λ_=>True) (λ_=>i6 (k.wr a l).1)
   (λ_=>Row r 113 (fC d v)::bl d (k.wr a l).2::(X++(Row c 3 [ii a]::Row bd 38 [.slice ao l.length cap]::R))):=by
 (refine aq.enter Tryz.func78 Tryz.ntmps78 rfl rfl ?_);refine VC.aR (QI X R) ?_;refine w ?_;refine zx [] 6 [0,1,2,3,4,5,6,7] _ ?_;refine w ?_;have g:aV W (Row c 3 [ii a]::Row bd 38 [.slice ao l.length cap]::Row r 113 (fC d v)::(X++R)) 1 ao l.length (bytes l):=by
  rcases f with h|h
  · exact h _
  · exact h.aR (λw i=>ae.nA (_::_::_::X) w i)
 refine VD.aR (aP.aR (L:=bl d k::Row c 3 [ii a]::Row bd 38 [.slice ao l.length cap]::Row r 113 (fC d v)::(X++R)) (by(repeat first|exact .refl|(apply aP.cons;focus repeat first|exact .head|apply nW.tail)|exact .nil|apply aP.drop))) ?_;refine zt (s:=Rj (b:=l) d k a e g) (h:=?_);intro _ _;refine w ?_;exact VE.done () rfl trivial rfl (ae.trans ae.re (TB X R))
theorem lT{W:World}{R:List ab}{ao:Option Addr}{cap:Nat}{l:List UInt8}(b:Nat)(D:aw)(k a:Int)(g:(D.dv k).k.cache.length<=1000000000)(i:Im W 1 ao l.length (bytes l)\/aV W R 1 ao l.length (bytes l)):
    az W Tryz.prog 49 [ip b,ii k,ii a,.slice ao l.length cap] (al b D::R) (i6 (D.write k a l).1) (al b (D.write k a l).2::R):=by
  refine ze Tryz.func49 Tryz.ntmps49 ?_;refine zj λ_=>?_;refine w ?_;refine zj λ_=>?_;refine w ?_;rename_i c bd;refine VO.pure rfl rfl (af.bB rfl) rfl ?_;refine w ?_;refine VO.aR (aP.aR (L:=al b D::Row c 3 [ii a]::Row bd 38 [.slice ao l.length cap]::R) (by(repeat first|exact .refl|(apply aP.cons;focus repeat first|exact .head|apply nW.tail)|exact .nil|apply aP.drop))) ?_;refine zt (s:=q6 (gd:=78) (gc:=77) (cp:=#[ip c,ip bd]) (kf:=λk=>(k.wr a l).2) (R:=Row c 3 [ii a]::Row bd 38 [.slice ao l.length cap]::R) b D k 1 (by decide) (λ_ _=>by simp) (λ_ _=>by simp) (λX=>KK b) (λr d j e X=>KI r d c bd (D.dv k) (D.dv k).k a g i X)) (h:=?_);intro y f;unfold aw.write;cases y with
  |none=>
    have e:D.refuse k≠0:=f;dsimp only[Option.elim_none];rw[aE e];refine w ?_;refine VE.ax rfl ?_ ?_
    · rfl
    · exact ae.re
  |some x=>
    obtain⟨e,m⟩:D.refuse k=0/\True:=f;dsimp only[Option.elim_some];rw[lam e];refine w ?_;refine VE.ax rfl ?_ ?_
    · rfl
    · exact ae.re
theorem FK{W:World}{R:List ab}(r d:Nat)(v:iQ)(k:ak)(X:List ab):
  aq W Tryz.prog 87 [ip r] (Row r 113 (fC d v)::bl d k::(X++R))
   (β:=Unit) (λ_=>True) (λ_=>i6 k.fl.1) (λ_=>Row r 113 (fC d v)::bl d k.fl.2::(X++R)):=by
 (refine aq.enter Tryz.func87 Tryz.ntmps87 rfl rfl ?_);refine zr (s:=Rf d k) (h:=?_);intro _ _;refine w ?_;exact VE.done () rfl trivial rfl ae.re
theorem jY{W:World}{R:List ab}(b:Nat)(D:aw)(k:Int):
    az W Tryz.prog 53 [ip b,ii k] (al b D::R) (i6 (D.flush k).1) (al b (D.flush k).2::R):=by
  (refine aq.enter Tryz.func53 Tryz.ntmps53 rfl rfl ?_);refine zt (s:=q6 (gd:=87) (gc:=86) (cp:=#[]) (kf:=λk=>k.fl.2) (R:=R) b D k 2 (by decide) (λ_ _=>by simp) (λ_ _=>by simp) (λX=>FJ b) (λr d e a X=>FK r d (D.dv k) (D.dv k).k X)) (h:=?_);intro y c;unfold aw.flush;cases y with
  |none=>
    have a:D.refuse k≠0:=c;dsimp only[Option.elim_none];rw[aE a];refine w ?_;refine VE.ax rfl ?_ ?_
    · rfl
    · exact ae.re
  |some x=>
    obtain⟨a,f⟩:D.refuse k=0/\True:=c;dsimp only[Option.elim_some];rw[lam a];refine w ?_;refine VE.ax rfl ?_ ?_
    · rfl
    · exact ae.re
def aw.tE(D:aw)(k:Int):Int:=iA D.bh.length (D.dev k).isSome k
def aw.fail(D:aw)(k:Int):Int×aw:=match D.dev k with
  |some v=>(0,D.j5 k.toNat ⟨v.k.fail,v.nT,v.left⟩)
  |none=>(D.tE k,D)
def aw.trips(D:aw)(n:Int):Int×aw:=if n<0 then(1,D)else if D.rQ then(50,D)else(0,{D with c8:=n})
theorem Fq{W:World}{R:List ab}(b:Nat)(D:aw)(k:Int):
    az W Tryz.prog 60 [ip b,ii k] (al b D::R) (i6 (D.fail k).1) (al b (D.fail k).2::R):=by
  (refine aq.enter Tryz.func60 Tryz.ntmps60 rfl rfl ?_);refine VC.obtain (λw=>al.open) ?_;rintro⟨⟨a,sp⟩,c,d⟩;dsimp only at c d⊢;refine zr (s:=ui (D:=D) (a:=a) (sp:=sp) b k d) (h:=?_);intro _ _;unfold aw.fail aw.tE;rw[wS c,show D.bh.length=sp.length by rw[c,ew]];cases i:BC sp k with
  |none=>
    dsimp only[dw,Option.map_none,Option.isSome_none];refine w ?_;have e:iA sp.length false k≠0:=by unfold iA;split<;>simp
    refine VC.aK rfl rfl (by simpa using e) ?_;refine w ?_;refine VE.ax rfl ?_ ?_
    · rfl
    · exact al.shut c d
  |some p=>
    obtain⟨f,s,j,rfl,rfl,g⟩:=mG i;dsimp only[dw,Option.map_some,Option.isSome_some];have e:iA (f++s::j).length true (f.length:Int)=0:=by unfold iA;rw[wT];rfl
    rw[e];refine w ?_;refine VO.aR (rJ g) ?_;refine zr (s:=Hu p.d p.v.k) (h:=?_);intro _ _;refine w ?_;refine VE.ax rfl ?_ ?_
    · rfl
    · refine ae.trans ae.re (Be (D:=D) (D':=D.j5 f.length ⟨p.v.k.fail,p.v.nT,p.v.left⟩) (p:=p) g ⟨p.v.k.fail,p.v.nT,p.v.left⟩ (uI (p:=p) c _) d)
theorem baytrip_ok{W:World}{R:List ab}(b:Nat)(D:aw)(n:Int):
  az W Tryz.prog 67 [ip b,ii n] (al b D::R) (i6 (D.trips n).1) (al b (D.trips n).2::R):=by
 (refine aq.enter Tryz.func67 Tryz.ntmps67 rfl rfl ?_);refine VC.obtain (λw=>al.open) ?_;rintro⟨⟨a,sp⟩,d,e⟩;dsimp only at d e⊢;refine w ?_;unfold aw.trips;refine zk ?_ ?_<;>intro c
 ·
  have h:n<0:=cI c;rw[lam h];refine w ?_;refine VE.ax rfl ?_ ?_
  · rfl
  · exact al.shut d e
 have h:¬n<0:=dx c;rw[aE h];refine w ?_;refine zk ?_ ?_<;>intro c
 ·
  rw[lam c];refine w ?_;refine VE.ax rfl ?_ ?_
  · rfl
  · exact al.shut d e
 ·
  rw[aE (by rw[show D.rQ=false from c];simp)];refine w ?_;refine VE.ax rfl ?_ ?_
  · rfl
  · exact al.shut (D:={D with c8:=n}) d e
theorem ya{a b:List aT}{s:aT}(j:Nat)(c:j<3)(v:Value):((a++s::b).flatMap aW).set (a.length*3+j) v=a.flatMap aW++((aW s).set j v++b.flatMap aW):=by
 have e:(a.flatMap aW).length=a.length*3:=cW a λ_ _=>rfl;rw[E5,Oi,KR _ _ (by rw[e];omega),e,show a.length*3+j-a.length*3=j by omega,List.set_append_left _ _ (by rw[tU];exact c)]
theorem sx{a b:List aT}{s:aT}(x:Option iR):((a++s::b).flatMap aW).set (a.length*3+0) (dw x)=(a++{s with kx:=x}::b).flatMap aW:=by
 rw[ya 0 (by decide),E5,Oi];rfl
theorem Cl{a b:List aT}{s:aT}(x:Option iR):((a++s::b).flatMap aW).set (a.length*3+2) (dw x)=(a++{s with cY:=x}::b).flatMap aW:=by
 rw[ya 2 (by decide),E5,Oi];rfl
theorem qg{a b:List aT}{s:aT}(j:Nat)(c:j<3):a.length*3+j<((a++s::b).flatMap aW).length:=by
 rw[cW (g:=aW) (w:=3) _ λ_ _=>rfl];simp;omega
def aw.qf(D:aw)(i:Nat)(s:gC):aw:={D with bh:=D.bh.set i s}
theorem ML{W:World}{R:List ab}:aV W R 1 none 0 (cT []):=by
 refine⟨rfl,λ_ h=>?_,λ_=>rfl,λ_ _ _ h=>?_⟩
 · cases h
 · cases h
structure fI where
  ao:Option Addr
  cap:Nat
  l:List Bool
abbrev fI.ei(x:fI):Value:= .slice x.ao x.l.length x.cap
structure oy(W:World)(R:List ab)(ao:Option Addr)(kl:List fI):Prop where
  gz:aV W R 1 ao kl.length (kl.map fI.ei)
  wf:∀x∈kl,aV W R 1 x.ao x.l.length (cT x.l)
theorem oy.aR{W:World}{H R:List ab}{ao:Option Addr}{kl:List fI}(h:oy W R ao kl)(e:ae W H R):oy W H ao kl:=⟨h.gz.aR e,λx a=>(h.wf x a).aR e⟩
def gC.cut(s:gC)(l:List Bool):gC:=
  if s.cY.isSome then⟨s.cY,s.aside,none⟩else⟨s.kx.map λv=>⟨v.k.settle (jI l),v.nT,v.left⟩,s.aside,none⟩
def aw.cut(D:aw)(kl:List (List Bool)):aw:={D with bh:=D.bh.mapIdx λi s=>s.cut (kl.getD i []),rQ:=false,c8:=-1}
theorem LS(a:List gC)(kl:List (List Bool))(i:Nat)(h:i<a.length):(a.mapIdx λj s=>s.cut (kl.getD j [])).take (i+1)=(a.mapIdx λj s=>s.cut (kl.getD j [])).take i++[a[i].cut (kl.getD i [])]:=by
 rw[nZ (by simpa using h)];simp
theorem Lr{W:World}{b n:Nat}{D:aw}{a:Addr}{d e:List aT}{R:List ab}(c:aT)(f:(d++c::e).length=n):
  ae W (bD c.kx::bD c.aside::bD c.cY::dA b D a n::Own 115 3 (.slice (some a) n n) n ((d++c::e).flatMap aW)::((d++e).map bI++R))
   (dA b D a n::Own 115 3 (.slice (some a) n n) n ((d++c::e).flatMap aW)::((d++c::e).map bI++R)):=by
 subst f;exact CW
theorem IH{W:World}{R:List ab}{ao:Option Addr}{cap:Nat}{kl:List fI}(b:Nat)(D:aw)(u:oy W R ao kl):
    az W Tryz.prog 69 [ip b,.slice ao kl.length cap] (al b D::R) (.tuple #[]) (al b (D.cut (kl.map fI.l))::R):=by
  (refine aq.enter Tryz.func69 Tryz.ntmps69 rfl rfl ?_);refine VC.obtain (λw=>al.open) ?_;rintro⟨⟨a,sp⟩,t,M⟩;dsimp only at t M⊢;have O:D.bh.length=sp.length:=by rw[t,ew]
  refine w ?_
  refine VC.loop (α:=List aT) (λdn=>dn.length<=sp.length/\dn.map aT.D=(D.cut (kl.map fI.l)).bh.take dn.length)
    (λdn=>dA b D a sp.length::Own 115 3 (.slice (some a) sp.length sp.length) sp.length ((dn++sp.drop dn.length).flatMap aW)::((dn++sp.drop dn.length).map bI++R))
    (λdn=>[(0,ip b),(1,.slice ao kl.length cap),(11,ii sp.length),(12,ii dn.length)]) (λdn=>sp.length-dn.length) rfl [] ⟨c7 _,rfl⟩ (by simp only[List.length_nil,KP,ou];exact ae.re) ⟨rfl,rfl,rfl,rfl,trivial⟩ ?_
  rintro dn ⟨N,i⟩;refine w ?_;refine zk ?_ ?_<;>intro j
  · have z:dn.length<sp.length:=by have:=cI j;omega
    have E:=vE z
    rw[E]
    generalize P:sp[dn.length]=s at*
    generalize n:sp.drop (dn.length+1)=c at*
    have A:(dn++s::c).length=sp.length:=by rw[<-n];simp;omega
    have C:D.bh[dn.length]'zO=s.D:=by simp only[t,Jz,P]
    rw[<-A]
    have c0:=mN (dn++s::c) dn.length 0 (by simp) (by decide)
    have c2:=mN (dn++s::c) dn.length 2 (by simp) (by decide)
    simp only[List.getElem_append_right (eI _),E7,List.getElem_cons_zero]at c0 c2
    refine w ?_
    refine VO.aR (Fp (D:=D)) ?_
    refine w ?_
    refine VO.pure rfl rfl (.fH ah rfl rfl (gR zm) (c0.trans rfl)) rfl ?_
    refine w ?_
    refine VC.join (α:=Option iR) (λx=>dw x=dw s.kx/\x.map iR.v=s.D.kx.map λv=>⟨v.k.settle (jI ((kl.map fI.l).getD dn.length [])),v.nT,v.left⟩) (λx=>bD x::AY b D a dn s c R) (λ_=>[(0,ip b),(1,.slice ao kl.length cap),(5,.pointer (some (a.add (dn.length*3)))),(11,ii (dn++s::c).length),(12,ii dn.length)]) ?_ ?_
    · intro S I
      cases m:s.kx with
      |none=>
        dsimp only[dw,Option.map_none,Option.isNone_none,Bool.not_true]
        refine w ?_
        refine I.to none ⟨by rw[m],by rw[show s.D.kx=s.kx.map iR.v from rfl,m];rfl⟩ ⟨rfl,rfl,rfl,rfl,rfl,trivial⟩ ae.refl
      |some p=>
        dsimp only[dw,Option.map_some,Option.isNone_some,Bool.not_false]
        refine w ?_
        refine VC.join (α:=fI) (λx=>x.l=(kl.map fI.l).getD dn.length []/\aV W R 1 x.ao x.l.length (cT x.l)) (λ_=>bD (some p)::AY b D a dn s c R) (λx=>[(0,ip b),(1,.slice ao kl.length cap),(5,.pointer (some (a.add (dn.length*3)))),(6,x.ei),(11,ii (dn++s::c).length),(12,ii dn.length)]) ?_ ?_
        · intro T o
          refine zk ?_ ?_<;>intro j
          · have e:dn.length<kl.length:=by have:=cI j;omega
            have y:=u.aR (ae.nA (W:=W) (R:=R) (bD (some p)::bD s.aside::bD s.cY::dA b D a (dn++s::c).length::cM a (dn++s::c)::(dn++c).map bI))
            obtain⟨r,rfl⟩:∃r,ao=some r:=by cases ao with|none=>have:=u.gz.nil rfl;omega|some r=>exact⟨r,rfl⟩
            refine w ?_
            refine VO.pure rfl rfl (.fH ah rfl rfl y.gz (show(kl.map fI.ei)[dn.length]?=some (kl[dn.length].ei)by rw[law,fL e];rfl)) rfl ?_
            refine w ?_
            refine o.to kl[dn.length] ⟨by simp[List.getD,e],u.wf _ (fF e)⟩ ⟨rfl,rfl,rfl,rfl,rfl,rfl,trivial⟩ ae.refl
          · have e:¬dn.length<kl.length:=by have:=dx j;omega
            refine w ?_
            refine o.to ⟨none,0,[]⟩ ⟨by simp[List.getD,e],ML⟩ ⟨rfl,rfl,rfl,rfl,rfl,rfl,trivial⟩ ae.refl
        · rintro x ⟨Q,H⟩
          refine w ?_
          refine VO.pure rfl rfl (.fH ah rfl rfl (gR zm) (c0.trans (by simp[aW,dw,m];rfl))) rfl ?_
          refine VO.aR (FB p _) ?_
          refine zr (s:=LP (l:=x.l) p.d p.v.k (H.aR (ae.nA (W:=W) (R:=R) (oJ p::bD s.aside::bD s.cY::dA b D a (dn++s::c).length::cM a (dn++s::c)::(dn++c).map bI)))) (h:=?_);intro _ _
          refine w ?_
          refine I.to (some ⟨p.r,p.d,⟨p.v.k.settle (jI x.l),p.v.nT,p.v.left⟩⟩) ⟨by rw[m];rfl,?_⟩ ⟨rfl,rfl,rfl,rfl,rfl,trivial⟩ ?_
          · rw[show s.D.kx=s.kx.map iR.v from rfl,m,<-Q];rfl
          · exact ae.trans ae.re (zF ⟨p.r,p.d,⟨p.v.k.settle (jI x.l),p.v.nT,p.v.left⟩⟩ _)
    · rintro x ⟨F,G⟩
      refine w ?_
      refine VO.pure rfl rfl (.fH ah rfl rfl (gR zm) (c2.trans rfl)) rfl ?_
      refine w ?_
      have g:∀f:aT,f.D=s.D.cut ((kl.map fI.l).getD dn.length [])->(dn++[f]).map aT.D=(D.cut (kl.map fI.l)).bh.take (dn++[f]).length:=by
        intro f B;rw[c9,ie,jv,i];unfold aw.cut;rw[LS _ _ _ zO,C,<-B];rfl
      have ei:∀f:aT,dn++[f]++sp.drop (dn++[f]).length=dn++f::c:=by intro f;rw[c9,ie,n];simp
      cases d:s.cY with
      |none=>
        dsimp only[dw,Option.map_none,Option.isNone_none,Bool.not_true]
        refine w ?_
        have J:aW s=aW ⟨x,s.aside,none⟩:=by unfold aW;rw[F,d]
        refine VE.round (dn++[⟨x,s.aside,none⟩]) ⟨by rw[c9,ie];omega,g _ ?_⟩ (by rw[A,c9,ie];omega) ⟨rfl,rfl,rfl,b7 rfl (by simp),trivial⟩ ?_
        · unfold gC.cut
          rw[show s.D.cY=s.cY.map iR.v from rfl,d,aE (by simp),<-G];rfl
        · rw[ei]
          have K:(dn++s::c).flatMap aW=(dn++⟨x,s.aside,none⟩::c).flatMap aW:=by simp only[E5,Oi,J]
          simp only[AY,cM]
          rw[K,d]
          exact Lr ⟨x,s.aside,none⟩ (by simp)
      |some q=>
        dsimp only[dw,Option.map_some,Option.isNone_some,Bool.not_false]
        refine w ?_
        refine VO.pure rfl rfl (.fH ah rfl rfl (gR zm) (c2.trans (by simp[aW,dw,d];rfl))) rfl ?_
        refine zw ?_
        refine ay.NB ah rfl rfl rfl rfl zh (qg 0 (by decide)) (sx (some q)) ?_
        refine zw ?_
        refine ay.NB ah rfl rfl rfl rfl zh (by rw[<-sx (s:=s) (some q),Ub];exact qg 2 (by decide)) (Cl none) ?_
        refine w ?_
        refine VE.round (dn++[⟨some q,s.aside,none⟩]) ⟨by rw[c9,ie];omega,g _ ?_⟩ (by rw[A,c9,ie];omega) ⟨rfl,rfl,rfl,b7 rfl (by simp),trivial⟩ ?_
        · unfold gC.cut
          rw[show s.D.cY=s.cY.map iR.v from rfl,d,lam (by simp)];rfl
        · rw[ei]
          refine ae.trans (O0 x _) ?_
          rw[d]
          refine ae.trans (ae.re (L:=bD (some q)::bD s.aside::dA b D a (dn++s::c).length::Own 115 3 (.slice (some a) (dn++s::c).length (dn++s::c).length) (dn++s::c).length ((dn++⟨some q,s.aside,none⟩::c).flatMap aW)::((dn++c).map bI++R))) ?_
          refine ae.trans (pN _) ?_
          refine ae.trans (ae.re (L:=bD (some q)::bD s.aside::bD none::dA b D a (dn++s::c).length::Own 115 3 (.slice (some a) (dn++s::c).length (dn++s::c).length) (dn++s::c).length ((dn++⟨some q,s.aside,none⟩::c).flatMap aW)::((dn++c).map bI++R))) ?_
          exact Lr ⟨some q,s.aside,none⟩ (by simp)
  · refine w ?_
    have k:dn.length=sp.length:=by have:=dx j;omega
    refine VE.b9 rfl ?_ ?_
    · rfl
    · rw[SQ zO,mn,<-k]
      rw[k,qy (by unfold aw.cut;simp[O])]at i
      exact al.shut (D:=D.cut (kl.map fI.l)) i.symm zO
def DG(l:List Int):List Value:=l.map λn=>ii n
@[simp] theorem Pt(l:List Int):(DG l).length=l.length:=by simp[DG]
theorem Jw(l:List Int)(i:Nat)(h:i<l.length):(DG l)[i]?=some (ii l[i]):=by simp[DG,h]
def pk(n:Int):Bool:=decide (0<=n/\n<=8192)
def IG(l:List Int):Int:=if l.length<1\/17<l.length then 1 else if l.all pk then 0 else 40
def mr(n:Int):gC:=if n=0 then⟨none,none,none⟩else⟨some ⟨.blank n.toNat,false,0⟩,none,none⟩
def aw.new(l:List Int):aw:=⟨l.map mr,false,-1,⟨0,0,0⟩⟩
def oX:aT:=⟨none,none,none⟩
theorem NJ:cH Tryz.prog 105 115 (.agg #[.pointer none,.pointer none,.pointer none]) 3 24:=⟨by kernel_rfl,by kernel_rfl,rfl,by simp[Value.cells,Value.oneCell']⟩
theorem G5{W:World}{A B:ab}(dn:List aT)(s:aT)(R:List ab):ae W (bD s.kx::bD s.aside::bD s.cY::A::B::(dn.map bI++R)) (A::B::((dn++[s]).map bI++R)):=λw a=>by
 have h:=Holds.nest (L:=[bD s.kx,bD s.aside,bD s.cY]) a;refine Holds.perm ?_ h;have b:(A::B::((dn++[s]).map bI++R)).Perm (A::B::bI s::(dn.map bI++R)):=by
  refine List.Perm.cons _ (List.Perm.cons _ ?_);rw[jv,lx];exact xb
 refine List.Perm.trans ?_ b.symm;exact List.Perm.append_right (dn.map bI++R) (show[bI s,A,B].Perm [A,B,bI s]from List.perm_append_comm (l₁:=[bI s]) (l₂:=[A,B]))
theorem On{W:World}{A B:ab}(dn:List aT)(R:List ab):ae W (A::B::(dn.map bI++R)) (A::B::((dn++[oX]).map bI++R)):=
 (((pN _).trans (pN _)).trans (pN _)).trans (G5 dn oX R)
theorem II{W:World}{R:List ab}{ao:Option Addr}{cap:Nat}{l:List Int}(E:aV W R 1 ao l.length (DG l))(C:l.length<=1000000000):
  aq W Tryz.prog 22 [.slice ao l.length cap] R (β:=Option Nat) (λx=>x.isSome=decide (IG l=0)) (λx=>.tuple #[.pointer (x.map λb=>⟨b,0,none⟩),i6 (IG l)]) (λx=>x.elim R λb=>al b (aw.new l)::R):=by
 refine ze Tryz.func22 Tryz.ntmps22 ?_;unfold IG;refine zg ?_ ?_<;>intro z
 ·
  have h:l.length<1:=by have:=cI z;omega
  refine w ?_;refine VE.done none rfl (by rw[lam (Or.inl h)];rfl) (by rw[lam (Or.inl h)];rfl) ae.refl
 have I:¬l.length<1:=by have:=dx z;omega
 refine w ?_;refine zk ?_ ?_<;>intro j
 ·
  have h:17<l.length:=by have:(17:Int)<l.length:=(by simpa using j);omega
  refine w ?_;refine VE.done none rfl (by rw[lam (Or.inr h)];rfl) (by rw[lam (Or.inr h)];rfl) ae.refl
 have J:¬17<l.length:=by have:(l.length:Int)<=17:=(by simpa using j);omega
 rw[aE zO];refine zw ?_;refine ay.makeSlice NJ rfl rfl zO (by simp only[maxLen];omega) rfl ?_;intro nb;have F:(madeCells (Value.agg #[.pointer none,.pointer none,.pointer none]).cells (l.length*3)).toList=(List.replicate l.length oX).flatMap aW:=by
  have:=oV (.pointer none) 3 (l.length*3) (by decide);have e:∀n:Nat,(List.replicate n oX).flatMap aW=List.replicate (n*3) (.pointer none):=by
   intro n;induction n with
   |zero=>rfl
   |succ n H=>rw[List.replicate_succ,Oi,H,Tk,Nat.one_mul,BG,<-List.replicate_append_replicate];rfl
  rw[e];exact this
 rw[F];apply VO.pure rfl rfl;apply af.build rh rfl;simp[aC,bR,Value.cells];rfl;rfl;refine w ?_;refine zj λ_=>?_;refine w ?_;rename_i b
 refine VC.loop (α:=List aT) (λdn=>dn.length<=l.length/\dn.map aT.D=(l.map mr).take dn.length/\(l.take dn.length).all pk=true)
  (λdn=>dA b (aw.new l) ⟨nb,0,none⟩ l.length::Own 115 3 (.slice (ik nb) l.length l.length) l.length ((dn++List.replicate (l.length-dn.length) oX).flatMap aW)::(dn.map bI++R))
  (λdn=>[(4,ip b),(22,.slice ao l.length cap),(23,ii l.length),(24,ii dn.length)]) (λdn=>l.length-dn.length) rfl [] ⟨c7 _,rfl,rfl⟩ (by simp only[List.length_nil,Nat.sub_zero,ou];exact ae.re) ⟨rfl,rfl,rfl,rfl,trivial⟩ ?_
 rintro dn ⟨G,q,a⟩;refine w ?_;refine zk ?_ ?_<;>intro j
 ·
  have i:dn.length<l.length:=by have:=cI j;omega
  obtain⟨u,rfl⟩:∃u,ao=some u:=by cases ao with|none=>have:=E.nil rfl;omega|some u=>exact⟨u,rfl⟩
  have hr2:=λA B=>E.aR (ae.nA (W:=W) (R:=R) (A::B::dn.map bI));refine w ?_;refine VO.pure rfl rfl (.fH ah rfl rfl (hr2 _ _) (Jw l dn.length i)) rfl ?_;refine w ?_;generalize v:l[dn.length]=n at*;have k:List.replicate (l.length-dn.length) oX=oX::List.replicate (l.length-(dn.length+1)) oX:=by rw[show l.length-dn.length=(l.length-(dn.length+1))+1 by omega,List.replicate_succ]
  have f:∀s:aT,s.D=mr n->(dn++[s]).map aT.D=(l.map mr).take (dn++[s]).length:=by
   intro s o;rw[c9,ie,jv,q,nZ (by simpa using i)];simp[o,v]
  have c:∀s:aT,pk n=true->(l.take (dn++[s]).length).all pk=true:=by
   intro s o;rw[c9,ie,nZ i,List.all_append,a,v];simp[o]
  refine zk ?_ ?_<;>intro j
  ·
   have t:n=0:=by simpa using j
   refine w ?_;refine VE.round (dn++[oX]) ⟨by rw[c9,ie];omega,f _ (by rw[t];rfl),c _ (by rw[t];rfl)⟩ (by rw[c9,ie];omega) ⟨rfl,rfl,rfl,b7 rfl (by simp),trivial⟩ ?_;rw[k,c9,ie,lx];exact On dn R
  ·
   have t:¬n=0:=by simpa using j
   refine w ?_;by_cases o:pk n=true
   ·
    obtain⟨g1,g2⟩:0<=n/\n<=8192:=cI o;obtain⟨m,rfl⟩:=RA g1;refine zr (s:=wD m zO zO) (h:=?_);intro d _;refine w ?_;apply VO.pure rfl rfl;apply af.build sb_113 rfl;simp[aC,bR,Value.cells];rfl;rfl;refine w ?_;refine zj λ_=>?_;refine w ?_;rename_i p;rw[k];refine zq ?_;refine ay.NB ah rfl rfl rfl rfl zh (qg 0 (by decide)) (sx (some ⟨p,d,⟨⟨List.replicate m bC,[],false⟩,false,0⟩⟩)) ?_;refine w ?_;refine VE.round (dn++[⟨some ⟨p,d,⟨⟨List.replicate m bC,[],false⟩,false,0⟩⟩,none,none⟩]) ⟨by rw[c9,ie];omega,f _ ?_,c _ o⟩ (by rw[c9,ie];omega) ⟨rfl,rfl,rfl,b7 rfl (by simp),trivial⟩ ?_
    · unfold mr;rw[aE t];rfl
    ·
     rw[c9,ie,lx];refine ae.trans (ae.re (L:=oJ ⟨p,d,⟨⟨List.replicate m bC,[],false⟩,false,0⟩⟩::bl d ⟨List.replicate m bC,[],false⟩::dA b (aw.new l) ⟨nb,0,none⟩ l.length::Own 115 3 (.slice (ik nb) l.length l.length) l.length ((dn++⟨some ⟨p,d,⟨⟨List.replicate m bC,[],false⟩,false,0⟩⟩,none,none⟩::List.replicate (l.length-(dn.length+1)) oX).flatMap aW)::(dn.map bI++R))) ?_;refine ae.trans (zF ⟨p,d,⟨⟨List.replicate m bC,[],false⟩,false,0⟩⟩ _) ?_;refine ae.trans (pN _) ?_;refine ae.trans (pN _) ?_;refine ae.trans (ae.re (L:=bD (some ⟨p,d,⟨⟨List.replicate m bC,[],false⟩,false,0⟩⟩)::bD none::bD none::dA b (aw.new l) ⟨nb,0,none⟩ l.length::Own 115 3 (.slice (ik nb) l.length l.length) l.length ((dn++⟨some ⟨p,d,⟨⟨List.replicate m bC,[],false⟩,false,0⟩⟩,none,none⟩::List.replicate (l.length-(dn.length+1)) oX).flatMap aW)::(dn.map bI++R))) ?_;exact G5 dn ⟨some ⟨p,d,⟨⟨List.replicate m bC,[],false⟩,false,0⟩⟩,none,none⟩ R
   ·
    have y:n<1\/8192<n:=by
     have:¬(0<=n/\n<=8192):=λh=>o (ky h);omega
    refine zr (s:=uo n y) (h:=?_);intro _ _;refine w ?_;have r:l.all pk=false:=by
     rw[Bool.eq_false_iff];intro h;rw[List.all_eq_true]at h;exact o (h n (by rw[<-v];exact fF i))
    refine VE.done none rfl (by simp[r]) (by simp[r]) ?_;exact ae.nA (_::_::dn.map bI)
 ·
  have g:dn.length=l.length:=by have:=dx j;omega
  refine w ?_;rw[g,qy (eI _)]at a;refine VE.done (some b) rfl (by simp[a]) (by simp[a]) ?_;rw[g,qy (by simp)]at q;rw[g,E7,List.replicate_zero,mn,<-g];exact al.shut (D:=aw.new l) q.symm zO
theorem Ly{W:World}{ao:Option Addr}{n cap:Nat}(h:jA Tryz.prog W 63 [.slice ao n cap]):∃l:List Bool,l.length=n/\Im W 1 ao n (cT l)/\n<=140737488351232:=by
  obtain⟨p,D,cap',row,x,t,z,C,m,j,g,y⟩:=h.kX Tryz.underlying63;cases x;have r:Tryz.prog.cellsOf 4=1:=by kernel_rfl
  have q:Tryz.prog.bytesOf 4=1:=by kernel_rfl
  rw[r]at j g;rw[q]at m;have v:∀i,∃c:Bool,i<cap->row i=[.bool c]:=λi=>by
    by_cases h:i<cap
    · obtain⟨b,d⟩:=(y i h).CY Tryz.underlying4
      exact⟨b,λ_=>d⟩
    · exact⟨false,λs=>lcs s h⟩
  obtain⟨c,a⟩:=Classical.axiomOfChoice v;refine⟨(List.range n).map c,by simp,λR=>?_,by simp only[reachBytes]at m;omega⟩;have o:=AF (R:=R) t z j (λi h u f=>by rw[a i h]at f;simp at f;subst f;rfl) g;have e:(List.range n).flatMap row=cT ((List.range n).map c):=by
    rw[cT,FZ];have:∀k,k<=n->(List.range k).flatMap row=(List.range k).map (Value.bool ∘ c):=by
      intro k;induction k with
      |zero=>intro _;rfl
      |succ k A=>
        intro B;rw[KQ,E5,jv,A zO];simp[a k zO]
    exact this n (eI _)
  rw[e]at o;exact o
theorem Pv{W:World}{cs:List Value}(h:jA Tryz.prog W 63 cs):∃o:fI,cs=[o.ei]/\Im W 1 o.ao o.l.length (cT o.l)/\o.l.length<=140737488351232:=by
 obtain⟨ao,n,cap,_,e,_⟩:=h.kX Tryz.underlying63;rw[e]at h;obtain⟨l,rfl,b,a⟩:=Ly h;exact⟨⟨ao,cap,l⟩,e,b,a⟩
theorem DI{W:World}{ao:Option Addr}{n cap:Nat}(h:jA Tryz.prog W 27 [.slice ao n cap]):∃kl:List fI,kl.length=n/\(∀R,oy W R ao kl)/\(∀x∈kl,x.l.length<=140737488351232)/\n<=140737488351232:=by
 obtain⟨l,c,k,e,m,b⟩:=jA.list (sz:=1) (λo:fI=>[o.ei]) (λo=>Im W 1 o.ao o.l.length (cT o.l)/\o.l.length<=140737488351232) ⟨none,0,[]⟩ Tryz.underlying27 (by kernel_rfl) (λo _ u d=>by simp only[ju]at d;subst d;rfl) (λcs h=>by
  obtain⟨o,g,i,j⟩:=Pv h;exact⟨o,g,i,j⟩) h
 have f:Tryz.prog.bytesOf 63=24:=by kernel_rfl
 rw[f]at b;refine⟨l,c,λR=>⟨?_,λx a=>(e x a).1 R⟩,λx a=>(e x a).2,by simp only[reachBytes]at b;omega⟩;have:=k R;rw[wH]at this;rw[c];exact this
def aw.plain(D:aw)(kind slot n:Int)(b:List UInt8):(List UInt8×Int)×aw:=
  if kind=1 then D.read slot n else if kind=2 then(([],(D.write slot n b).1),(D.write slot n b).2)else(([],(D.flush slot).1),(D.flush slot).2)
end Go.Proofs.YtldolcbbmnmjoaaGreat
namespace Go.Proofs.YtldolcbbmnmjoaaGreat
open Go.RowKit Go.Sl
def gC.gE(s:gC)(c:Nat):Prop:=∀v,(s.kx=some v\/s.aside=some v\/s.cY=some v)->v.k.cache.length<=c
def aw.gE(D:aw)(c:Nat):Prop:=∀s∈D.bh,s.gE c
theorem aw.gE.mono{D:aw}{c c':Nat}(h:D.gE c)(a:c<=c'):D.gE c':=λs b v d=>RB (h s b v d) a
theorem Ge(c:Nat):gC.gE ⟨none,none,none⟩ c:=λv a=>by rcases a with h|h|h<;>cases h
theorem O2{D:aw}{k:Int}{v:iQ}(h:D.dev k=some v):∃s∈D.bh,s.kx=some v:=by
 unfold aw.dev at h;split at h
 ·
  obtain⟨s,a,b⟩:=Option.bind_eq_some_iff.1 h;exact⟨s,lay a,b⟩
 · cases h
theorem Qf{v:iQ}{c:Nat}(h:v.k.cache.length<=c):v.use.k.cache.length<=c:=by
 unfold iQ.use;split
 · exact h
 ·
  split
  · exact c7 _
  · exact h
theorem oK{D:aw}{c:Nat}(h:D.gE c)(k:Int):(D.dv k).k.cache.length<=c:=by
  unfold aw.dv;refine Qf ?_;cases a:D.dev k with
  |none=>exact c7 _
  |some v=>
    obtain⟨s,d,b⟩:=O2 a;exact h s d v (.inl b)
theorem Ki{D:aw}{c:Nat}(h:D.gE c)(i:Nat):gC.gE ((D.bh[i]?).getD ⟨none,none,none⟩) c:=by
 cases a:D.bh[i]? with
 |none=>exact Ge c
 |some s=>exact h s (lay a)
theorem Nt{D:aw}{c i:Nat}{s:gC}(h:D.gE c)(a:s.gE c):(D.qf i s).gE c:=by
 intro x b;rcases List.mem_or_eq_of_mem_set b with q|q
 · exact h x q
 · subst q;exact a
theorem rm{D:aw}{c i:Nat}{v:iQ}(h:D.gE c)(b:v.k.cache.length<=c):(D.j5 i v).gE c:=by
 have a:=Ki h i;refine Nt (s:={(D.bh[i]?.getD ⟨none,none,none⟩)with kx:=some v}) h ?_;intro x d;rcases d with q|q|q
 · cases q;exact b
 · exact a x (.inr (.inl q))
 · exact a x (.inr (.inr q))
theorem jE{D:aw}{c:Nat}(h:D.gE c)(k:Int)(j:Nat):(D.ahead k j).gE c:=by intro s a;rw[D.CK]at a;exact h s a
theorem SK{k:ak}{a:Int}{b:List UInt8}{c:Nat}(h:k.cache.length<=c):(k.wr a b).2.cache.length<=c+1:=by
 unfold ak.wr;split
 · exact Nat.le_succ_of_le h
 ·
  split
  · exact Nat.le_succ_of_le h
  ·
   show(k.cache++[_]).length<=_;rw[c9,ie];omega
theorem Rt{k:ak}{c:Nat}(h:k.cache.length<=c):k.fl.2.cache.length<=c:=by
 unfold ak.fl;split
 · exact h
 · exact c7 _
theorem Gj{D:aw}{c:Nat}(h:D.gE c)(kind slot n:Int)(b:List UInt8):(D.plain kind slot n b).2.gE (c+1):=by
 have a:=oK h slot;unfold aw.plain aw.read aw.write aw.flush;split
 ·
  split
  · exact(rm (jE h _ _) a).mono (Nat.le_succ _)
  · exact(jE h _ _).mono (Nat.le_succ _)
 ·
  split
  ·
   dsimp only;split
   · exact rm ((jE h _ _).mono (Nat.le_succ _)) (SK a)
   · exact(jE h _ _).mono (Nat.le_succ _)
  ·
   dsimp only;split
   · exact(rm (jE h _ _) (Rt a)).mono (Nat.le_succ _)
   · exact(jE h _ _).mono (Nat.le_succ _)
theorem MJ(l:List Int):(aw.new l).gE 0:=by
 intro s b;obtain⟨n,_,rfl⟩:=fG.1 b;intro v a;unfold mr at a;split at a
 · rcases a with q|q|q<;>cases q
 ·
  rcases a with q|q|q
  · cases q;exact eI _
  · cases q
  · cases q
end Go.Proofs.YtldolcbbmnmjoaaGreat
namespace Go.Sl
abbrev Pl:=Int×Int
def mK(a b:Pl):Prop:=a.2<b.2\/(a.2=b.2/\a.1<b.1)
instance (a b:Pl):Decidable (mK a b):=by unfold mK;infer_instance
theorem nJ(a:Pl):¬mK a a:=by unfold mK;omega
theorem nG{a b c:Pl}(d:¬mK b a)(e:¬mK c b):¬mK c a:=by unfold mK at*;omega
theorem qb{a b:Pl}(c:mK a b):¬mK b a:=by unfold mK at*;omega
def pl(l:List Pl)(i:Nat):Pl:=l.getD i (0,0)
theorem Ef{l:List Pl}{i:Nat}(h:i<l.length):pl l i=l[i]:=by unfold pl;rw[List.getD_eq_getElem?_getD,fL h];rfl
def swp(l:List Pl)(i j:Nat):List Pl:=(l.set i (pl l j)).set j (pl l i)
theorem fV(l:List Pl)(i j:Nat):(swp l i j).length=l.length:=by simp[swp]
theorem kg{l:List Pl}{i j:Nat}(d:i<l.length)(e:j<l.length)(k:Nat):pl (swp l i j) k=if k=j then pl l i else if k=i then pl l j else pl l k:=by
 have c:∀(l:List Pl)(k:Nat),pl l k=(l[k]?).getD (0,0):=λl k=>by unfold pl;rw[List.getD_eq_getElem?_getD]
 rw[c (swp l i j)];unfold swp;rw[List.getElem?_set,List.getElem?_set];simp only[Ub];by_cases a:j=k
 ·
  subst a;rw[lam rfl,lam e,lam rfl];rfl
 ·
  by_cases b:i=k
  ·
   subst b;rw[aE a,lam rfl,lam d,aE (Ne.symm a),lam rfl];rfl
  · rw[aE a,aE b,aE (Ne.symm a),aE (Ne.symm b),c]
theorem yk{l:List Pl}{i j:Nat}(a:i<l.length)(b:j<l.length):List.Perm (swp l i j) l:=by
 have h:=(Array.swap_perm (xs:=l.toArray) (i:=i) (j:=j) (by simpa using a) (by simpa using b)).toList;have e:(l.toArray.swap i j (by simpa using a) (by simpa using b)).toList=swp l i j:=by
  unfold swp;simp[Ef a,Ef b]
 rw[e]at h;exact h
def j7(l:List Pl)(n:Nat):Prop:=∀c,0<c->c<n->¬mK (pl l c) (pl l ((c-1)/2))
theorem j7.least{l:List Pl}{n:Nat}(h:j7 l n):∀c,c<n->¬mK (pl l c) (pl l 0):=by
  intro c;induction c using Nat.strongRecOn with
  |ind c b=>
    intro a;rcases Nat.eq_zero_or_pos c with rfl|hp
    · exact nJ _
    · exact nG (b ((c-1)/2) zO zO) (h c hp a)
theorem j7.nil:j7 [] 0:=λc _ h=>zO
structure qu(l:List Pl)(j:Nat):Prop where
  at_:j<l.length
  all:∀c,0<c->c<l.length->c≠j->¬mK (pl l c) (pl l ((c-1)/2))
  kids:∀c,0<c->c<l.length->(c-1)/2=j->0<j->¬mK (pl l c) (pl l ((j-1)/2))
theorem qu.start{l:List Pl}(h:j7 l l.length)(x:Pl):qu (l++[x]) l.length:=by
 have e:∀c,c<l.length->pl (l++[x]) c=pl l c:=λc a=>by unfold pl;rw[List.getD_eq_getElem?_getD,List.getD_eq_getElem?_getD,Ah a]
 refine⟨by simp,λc b a f=>?_,λc b a d _=>?_⟩
 ·
  simp only[c9,ie]at a;rw[e c zO,e _ zO];exact h c b zO
 ·
  simp only[c9,ie]at a;omega
theorem qu.step{l:List Pl}{j:Nat}(h:qu l j)(p:0<j)(f:mK (pl l j) (pl l ((j-1)/2))):qu (swp l ((j-1)/2) j) ((j-1)/2):=by
 obtain⟨g,i,o⟩:=h;have b:(j-1)/2<l.length:=by omega
 refine⟨by rw[fV];exact b,λc d a s=>?_,λc d a r k=>?_⟩
 ·
  rw[fV]at a;rw[kg b g,kg b g];by_cases q:c=j
  ·
   subst q;rw[lam rfl,aE zO,lam rfl];exact qb f
  ·
   rw[aE q,aE s];by_cases m:(c-1)/2=j
   ·
    rw[lam m];exact o c d a m p
   ·
    rw[aE m];by_cases n:(c-1)/2=(j-1)/2
    ·
     rw[lam n];exact nG (qb f) (by have:=i c d a q;rwa [n]at this)
    ·
     rw[aE n];exact i c d a q
 ·
  rw[fV]at a;have e:=i ((j-1)/2) k b zO;rw[kg b g,kg b g,aE (c:=((j-1)/2-1)/2=j) zO,aE (c:=((j-1)/2-1)/2=(j-1)/2) zO];by_cases q:c=j
  · rw[lam q];exact e
  ·
   rw[aE q,aE zO];exact nG e (by have:=i c d a q;rwa [r]at this)
theorem qu.done{l:List Pl}{j:Nat}(h:qu l j)(hd:j=0\/¬mK (pl l j) (pl l ((j-1)/2))):j7 l l.length:=by
 intro c a b;by_cases q:c=j
 ·
  subst q;rcases hd with hd|hd
  · omega
  · exact hd
 · exact h.all c a b q
structure jR(l:List Pl)(i n:Nat):Prop where
  mx:n<=l.length
  all:∀c,0<c->c<n->(c-1)/2≠i->¬mK (pl l c) (pl l ((c-1)/2))
  kids:∀c,0<c->c<n->(c-1)/2=i->0<i->¬mK (pl l c) (pl l ((i-1)/2))
theorem jR.start{l:List Pl}{n:Nat}(h:j7 l (n+1))(e:n+1<=l.length):jR (swp l 0 n) 0 n:=by
 refine⟨by rw[fV];omega,λc a b d=>?_,λc a b _ h=>lcs h zO⟩;rw[kg zO zO,kg zO zO,aE zO,aE zO,aE zO,aE d];exact h c a zO
theorem jR.step{l:List Pl}{i j n:Nat}(h:jR l i n)(v:j<n)(x:0<j)(o:(j-1)/2=i)(d:∀c,0<c->c<n->(c-1)/2=i->¬mK (pl l c) (pl l j))(r:mK (pl l j) (pl l i)):jR (swp l i j) j n:=by
 obtain⟨z,s,u⟩:=h;have a:i<l.length:=by omega
 have b:j<l.length:=by omega
 refine⟨by rw[fV];omega,λc e f y=>?_,λc e f p _=>?_⟩
 ·
  rw[kg a b,kg a b,aE y];by_cases q:c=j
  ·
   subst q;rw[lam rfl,lam o];exact qb r
  ·
   rw[aE q];by_cases t:c=i
   ·
    subst t;rw[lam rfl,aE zO];exact u j x v o e
   ·
    rw[aE t];by_cases g:(c-1)/2=i
    ·
     rw[lam g];exact d c e f g
    ·
     rw[aE g];exact s c e f g
 ·
  have k:c≠i:=by omega
  have m:c≠j:=by omega
  rw[kg a b,kg a b,aE m,aE k,aE zO,lam o];have:=s c e f zO;rwa [p]at this
theorem jR.done{l:List Pl}{i n:Nat}(h:jR l i n)(d:∀c,0<c->c<n->(c-1)/2=i->¬mK (pl l c) (pl l i)):j7 l n:=by
 intro c a b;by_cases q:(c-1)/2=i
 · rw[q];exact d c a b q
 · exact h.all c a b q
theorem j7.take{l:List Pl}{n:Nat}(h:j7 l n)(d:n<=l.length):j7 (l.take n) (l.take n).length:=by
 have e:∀c,c<n->pl (l.take n) c=pl l c:=λc a=>by unfold pl;rw[List.getD_eq_getElem?_getD,List.getD_eq_getElem?_getD,List.getElem?_take_of_lt a]
 intro c b a;rw[j1]at a;rw[e c zO,e _ zO];exact h c b zO
theorem xA{K A:List Pl}{k:Pl}(h:K.Nodup)(c:List.Perm K (k::A)):List.Perm A (K.filter λx=>x≠k):=by
 have b:=c.nodup h;rw[List.nodup_cons]at b;have a:=c.filter (λx=>decide (x≠k));have d:(A.filter λx=>decide (x≠k))=A:=List.filter_eq_self.2 (λx f=>by simp;intro e;exact b.1 (e▸f));rw[List.filter_cons_of_neg (by simp),d]at a;exact a.symm
theorem Gd{K:List Pl}{k:Pl}(h:K.Nodup)(a:k∈K):List.Perm ((K.filter λx=>x≠k)++[k]) K:=by
 obtain⟨R,p⟩:∃R,List.Perm K (k::R):=by
  obtain⟨s,t,rfl⟩:=List.append_of_mem a;exact⟨s++t,xb⟩
 exact(List.perm_append_comm (l₂:=[k])).trans (((xA h p).symm.cons k).trans p.symm)
structure dS(r:Int)(K A B:List Pl):Prop where
  ahead:List.Perm A (K.filter λx=>r<=x.2)
  below:List.Perm B (K.filter λx=>x.2<r)
  hA:j7 A A.length
  hB:j7 B B.length
  one:K.Nodup
  pos:∀x∈K,0<=x.2
theorem dS.nil(r:Int):dS r [] [] []:=⟨.refl _,.refl _,j7.nil,j7.nil,List.nodup_nil,λx h=>(by cases h)⟩
theorem dS.perm{r:Int}{K a A B:List Pl}(h:dS r K A B)(p:List.Perm K a):dS r a A B:=
 ⟨h.ahead.trans (p.filter _),h.below.trans (p.filter _),h.hA,h.hB,p.nodup h.one,λx b=>h.pos x (p.symm.subset b)⟩
theorem dS.CE{r:Int}{K A B:List Pl}{k:Pl}(h:dS r K A B)(a:k∈K):dS r ((K.filter λx=>x≠k)++[k]) A B:=h.perm (Gd h.one a).symm
theorem dS.Uf{r:Int}{K A B c:List Pl}{k:Pl}(h:dS r K A B)(j:k∉K)(m:r<=k.2)(f:0<=k.2)(l:List.Perm c (k::A))(i:j7 c c.length):dS r (K++[k]) c B:=by
 refine⟨?_,?_,i,h.hB,?_,?_⟩
 ·
  rw[oS,List.filter_cons_of_pos (by simpa using m),List.filter_nil];exact l.trans ((h.ahead.cons k).trans (List.perm_append_comm (l₁:=[k])))
 ·
  rw[oS,List.filter_cons_of_neg (by simp;omega),List.filter_nil,mn];exact h.below
 · exact List.nodup_append.2 ⟨h.one,by simp,λa g b d=>by rw[ju]at d;subst d;intro e;exact j (e▸g)⟩
 ·
  intro x hx;rcases l0.1 hx with hx|hx
  · exact h.pos x hx
  · rw[ju]at hx;subst hx;exact f
theorem dS.Ug{r:Int}{K A B c:List Pl}{k:Pl}(h:dS r K A B)(j:k∉K)(m:k.2<r)(f:0<=k.2)(l:List.Perm c (k::B))(i:j7 c c.length):dS r (K++[k]) A c:=by
 refine⟨?_,?_,h.hA,i,?_,?_⟩
 ·
  rw[oS,List.filter_cons_of_neg (by simp;omega),List.filter_nil,mn];exact h.ahead
 ·
  rw[oS,List.filter_cons_of_pos (by simpa using m),List.filter_nil];exact l.trans ((h.below.cons k).trans (List.perm_append_comm (l₁:=[k])))
 · exact List.nodup_append.2 ⟨h.one,by simp,λa g b d=>by rw[ju]at d;subst d;intro e;exact j (e▸g)⟩
 ·
  intro x hx;rcases l0.1 hx with hx|hx
  · exact h.pos x hx
  · rw[ju]at hx;subst hx;exact f
theorem BN{K:List Pl}{k:Pl}(a:k∉K):(K.filter λx=>x≠k)=K:=List.filter_eq_self.2 λx b=>by simp;intro e;exact a (e▸b)
theorem dS.wrap{r:Int}{K B:List Pl}(h:dS r K [] B):dS 0 K B []/\∀x∈K,x.2<r:=by
 have a:∀x∈K,x.2<r:=λx b=>by
  have:=h.ahead.length_eq;have c:=te.1 this.symm;have d:=List.filter_eq_nil_iff.1 c x b;simpa using d
 refine⟨⟨?_,?_,h.hB,j7.nil,h.one,h.pos⟩,a⟩
 ·
  rw[List.filter_eq_self.2 (λx b=>by simpa using h.pos x b)];have:=h.below;rwa [List.filter_eq_self.2 (λx b=>by simpa using a x b)]at this
 · rw[List.filter_eq_nil_iff.2 (λx b=>by have:=h.pos x b;simp;omega)]
def base(r:Int)(K:List Pl):Int:=if(K.any λx=>decide (r<=x.2))then r else 0
structure AZ(r:Int)(K:List Pl)(k:Pl):Prop where
  mem:k∈K
  low:base r K<=k.2
  least:∀x∈K,base r K<=x.2->¬mK x k
theorem CT{r:Int}{K:List Pl}{k:Pl}(a:k∈K)(h:r<=k.2):base r K=r:=by
 unfold base;rw[lam (List.any_eq_true.2 ⟨k,a,by simpa using h⟩)]
theorem Lo{r:Int}{K:List Pl}(h:∀x∈K,x.2<r):base r K=0:=by
 unfold base;rw[aE];intro a;obtain⟨x,c,b⟩:=List.any_eq_true.1 a;have:=h x c;have d:r<=x.2:=by simpa using b
 omega
theorem dS.next{r:Int}{K A B j:List Pl}{k:Pl}(h:dS r K A B)(p:k=pl A 0)(n:List.Perm (k::j) A)(o:j7 j j.length):
  dS k.2 (K.filter λx=>x≠k) j B/\k∈K/\r<=k.2/\∀x∈K,r<=x.2->¬mK x k:=by
 have b:∀x∈A,¬mK x k:=by
  intro x a;obtain⟨i,m,rfl⟩:=List.mem_iff_getElem.1 a;rw[<-Ef m,p];exact h.hA.least i m
 have l:k∈A:=n.subset (.head _);have d:=h.ahead.subset l;rw[KO]at d;have s:r<=k.2:=by simpa using d.2
 have c:∀x∈K,r<=x.2->¬mK x k:=λx a f=>b x (h.ahead.symm.subset (KO.2 ⟨a,by simpa using f⟩));have g:∀x∈K,r<=x.2->k.2<=x.2:=λx a f=>by have:=c x a f;unfold mK at this;omega
 refine⟨⟨?_,?_,o,h.hB,h.one.filter _,λx a=>h.pos x (KO.1 a).1⟩,d.1,s,c⟩
 ·
  have f:=xA (h.one.filter _) (h.ahead.symm.trans n.symm);refine f.trans (.of_eq ?_);rw[List.filter_filter,List.filter_filter];refine List.filter_congr λx a=>?_;by_cases q:x=k
  · simp[q]
  ·
   have e:(r<=x.2)=(k.2<=x.2):=propext ⟨g x a,λh=>by omega⟩;simp[q,e]
 ·
  refine h.below.trans (.of_eq ?_);rw[List.filter_filter];refine List.filter_congr λx a=>?_;have e:(x.2<r)=(x.2<k.2/\x≠k):=propext ⟨λh=>⟨by omega,λq=>by subst q;omega⟩,λh=>by
   rcases Int.lt_or_le x.2 r with q|q
   · exact q
   · have:=g x a q;omega⟩
  rw[Bool.eq_iff_iff];simp[e]
end Go.Sl
namespace Go.Proofs.YtldolcbbmnmjoaaGreat
open Go.RowKit Go.Sl
attribute [local irreducible] Own
structure ai where
  id:Nat
  events:Nat
  safe:Nat
  role:Int
  members:Int
  chunk:Int
  bG:Int
  ring:Int
  lazy:Bool
  lost:Bool
  so:Option Addr
  sc:Nat
  au:List UInt8
  dc:Int
abbrev ai.cells(s:ai):List Value:=[i8 s.id,i8 s.events,i8 s.safe,ii s.role,ii s.members,ii s.chunk,ii s.bG,ii s.ring,.bool s.lazy,.bool s.lost,.slice s.so s.au.length s.sc,ii s.dc]
structure ai.fit(s:ai):Prop where
  id:s.id<18446744073709551616
  events:s.events<18446744073709551616
  safe:s.safe<18446744073709551616
  role:-9223372036854775808<=s.role/\s.role<=9223372036854775807
  members:-9223372036854775808<=s.members/\s.members<=9223372036854775807
  chunk:-9223372036854775808<=s.chunk/\s.chunk<=9223372036854775807
  bG:-9223372036854775808<=s.bG/\s.bG<=9223372036854775807
  ring:-9223372036854775808<=s.ring/\s.ring<=9223372036854775807
  dc:-9223372036854775808<=s.dc/\s.dc<=9223372036854775807
  len:s.au.length<=140737488351232
  cap:s.au.length<=s.sc
theorem cB(s:ai):∀u∈s.cells,u.oneCell'=true:=by
 intro u a;simp only[ai.cells,List.mem_cons,TW,or_false]at a;rcases a with h|h|h|h|h|h|h|h|h|h|h|h<;>subst h<;>rfl
structure cO where
  has:Bool
  s:ai
abbrev cO.cells(b:cO):List Value:= .bool b.has::b.s.cells
theorem iW(b:cO):∀u∈b.cells,u.oneCell'=true:=by
 intro u a;rcases List.mem_cons.1 a with h|h
 · subst h;rfl
 · exact cB _ u h
def eJ(l:List cO):List Value:=l.flatMap cO.cells
theorem Hc(l:List cO)(j i:Nat)(h:j<l.length)(a:i<13):(eJ l)[j*13+i]?=(l[j].cells)[i]? :=vA l j i h (λ_ _=>rfl) a
structure E9(W:World)(R:List ab)(ao:Option Addr)(l:List cO):Prop where
  gz:aV W R 13 ao l.length (eJ l)
  st:∀b∈l,aV W R 1 b.s.so b.s.au.length (bytes b.s.au)
  fit:∀b∈l,b.s.fit
theorem E9.aR{W:World}{H R:List ab}{ao:Option Addr}{l:List cO}(h:E9 W R ao l)(e:ae W H R):E9 W H ao l:=⟨h.gz.aR e,λb a=>(h.st b a).aR e,h.fit⟩
theorem kZ{W:World}{R:List ab}(n a b:Int):
  az W Tryz.prog 203 [ii n,ii a,ii b] R (.bool (decide (a<=n/\n<=b))) R:=by
 refine ze Tryz.func203 Tryz.ntmps203 ?_;refine zg ?_ ?_<;>intro c
 ·
  have h:a<=n:=cI c;refine w ?_;refine VE.ax rfl ?_ ?_
  · simp[h]
  · exact ae.refl
 ·
  have h:¬a<=n:=dx c;refine w ?_;refine VE.ax rfl ?_ ?_
  · simp[h]
  · exact ae.refl
theorem yx{W:World}{R:List ab}(n a b:Int):
  az W Tryz.prog 204 [i8 n,i8 a,i8 b] R (.bool (decide (a<=n/\n<=b))) R:=by
 refine ze Tryz.func204 Tryz.ntmps204 ?_;refine zg ?_ ?_<;>intro c
 ·
  have h:a<=n:=cI c;refine w ?_;refine VE.ax rfl ?_ ?_
  · simp[h]
  · exact ae.refl
 ·
  have h:¬a<=n:=dx c;refine w ?_;refine VE.ax rfl ?_ ?_
  · simp[h]
  · exact ae.refl
theorem KA{W:World}{R:List ab}{ao:Option Addr}{cap:Nat}{l:List UInt8}(v:UInt8)(g:aV W R 1 ao l.length (bytes l))(m:l.length<=140737488351232):
  aq W Tryz.prog 119 [.slice ao l.length cap,ib (v.toNat:Int)] R (β:=Int) (λk=>decide (0<=k)=decide (v∈l)) (λk=>ii k) (λ_=>R):=by
 refine ze Tryz.func119 Tryz.ntmps119 ?_;refine VC.loop (α:=Nat) (λi=>i<=l.length/\v∉l.take i) (λ_=>R) (λi=>[(0,.slice ao l.length cap),(1,ib (v.toNat:Int)),(7,ii l.length),(8,ii i)]) (λi=>l.length-i) rfl 0 ⟨c7 _,by simp⟩ ae.refl zB ?_;rintro i ⟨j,c⟩;refine w ?_;refine zk ?_ ?_<;>intro d
 ·
  have b:i<l.length:=by have:=cI d;omega
  obtain⟨a,rfl⟩:∃a,ao=some a:=by cases ao with|none=>have:=g.nil rfl;omega|some a=>exact⟨a,rfl⟩
  refine w ?_;refine VO.pure rfl rfl (af.rZ ah rfl rfl g (show(bytes l)[i]?=some (ib (l[i].toNat:Int))by simp[bytes,b];rfl)) rfl ?_;refine w ?_;refine zk ?_ ?_<;>intro d
  ·
   have e:v=l[i]:=by have h:(v.toNat:Int)=l[i].toNat:=(by simpa using d);exact UInt8.toNat_inj.1 zO
   refine w ?_;refine VE.done (i:Int) rfl ?_ rfl ae.refl;rw[ky zO,ky (by rw[e];exact fF b)]
  ·
   have e:v≠l[i]:=by
    intro h;subst h;simp at d
   refine w ?_;refine VE.round (i+1) ⟨b,?_⟩ zO ⟨rfl,rfl,rfl,b7 rfl (by congr 1),trivial⟩ ae.refl;rw[nZ b,l0,ju];rintro(h|h)
   · exact c h
   · exact e h
 ·
  have f:i=l.length:=by have:=dx d;omega
  subst f;rw[qy (eI _)]at c;refine w ?_;refine VE.done (-1) rfl (by simp[c]) rfl ae.refl
def ai.rG(a b:ai):Bool:=decide (a.id=b.id/\(a.members=b.members/\a.chunk=b.chunk/\a.bG=b.bG)/\a.ring=b.ring/\a.lazy=b.lazy)
theorem Ru{W:World}{n:Nat}{H:List ab}{f:Fr}{dst:Option Tmp}{ty_:TypeId}{pos:String}{after:Array Edge}{guard:Option (Nat×Bool)}{op:BinOp}{x y:Operand}{u:TypeId}{a b:ai}{v:Value}(i:aD f x=some (.agg #[ii a.members,ii a.chunk,ii a.bG]))(j:aD f y=some (.agg #[ii b.members,ii b.chunk,ii b.bG]))
  (d:a.fit)(e:b.fit)(g:CA op (decide (a.members=b.members/\a.chunk=b.chunk/\a.bG=b.bG))=some v):af W Tryz.prog n H f {dst,op:= .binOp op 36 x y u,type:=ty_,pos,after,guard} v:=by
 have w:∀z:Int,-9223372036854775808<=z/\z<=9223372036854775807->(Lit.int .i64 z).wf=true:=λz h=>by simp[Lit.wf,IntKind.min,IntKind.max,IntKind.signed,IntKind.bits];omega
 refine af.L3 (ks:=[some .i64,some .i64,some .i64]) (cs:=[ii a.members,ii a.chunk,ii a.bG]) (ds:=[ii b.members,ii b.chunk,ii b.bG]) (by kernel_rfl) i j rfl rfl rfl rfl ?_ ?_ ?_ g
 ·
  intro l c;simp only[List.mem_cons,TW,or_false]at c;rcases c with h|h|h
  · subst h;exact w _ d.members
  · subst h;exact w _ d.chunk
  · subst h;exact w _ d.bG
 ·
  intro l c;simp only[List.mem_cons,TW,or_false]at c;rcases c with h|h|h
  · subst h;exact w _ e.members
  · subst h;exact w _ e.chunk
  · subst h;exact w _ e.bG
 · simp
theorem G6{W:World}{R:List ab}(a b:ai)(i:a.fit)(g:b.fit):
  az W Tryz.prog 184 [.agg a.cells.toArray,.agg b.cells.toArray] R (.bool (a.rG b)) R:=by
 refine ze Tryz.func184 Tryz.ntmps184 ?_;refine zj λ_=>?_;refine w ?_;refine zj λ_=>?_;refine w ?_;unfold ai.rG;refine zg ?_ ?_<;>intro c
 ·
  have e:a.id=b.id:=by have:=c;simp at this;omega
  refine w ?_;refine VO.pure rfl rfl (Ru (a:=a) (b:=b) rfl rfl i g rfl) rfl ?_;refine w ?_;refine zg ?_ ?_<;>intro c
  ·
   have d:a.members=b.members/\a.chunk=b.chunk/\a.bG=b.bG:=cI c;refine w ?_;refine zg ?_ ?_<;>intro c
   ·
    have f:a.ring=b.ring:=by simpa using c
    refine w ?_;refine VE.ax rfl ?_ ?_
    · congr 1;rw[Bool.eq_iff_iff];simp[e,d.1,d.2.1,d.2.2,f]
    · exact ae.re
   ·
    have f:¬a.ring=b.ring:=by simpa using c
    refine w ?_;refine VE.ax rfl ?_ ?_
    · simp[f]
    · exact ae.re
  ·
   have d:¬(a.members=b.members/\a.chunk=b.chunk/\a.bG=b.bG):=dx c;refine w ?_;refine VE.ax rfl ?_ ?_
   · congr 1;symm;exact gx (λh=>d h.2.1)
   · exact ae.re
 ·
  have e:¬a.id=b.id:=by have:=c;simp at this;omega
  refine w ?_;refine VE.ax rfl ?_ ?_
  · simp[e]
  · exact ae.re
theorem C6{W:World}{R:List ab}{ao:Option Addr}{cap:Nat}{l:List UInt8}(v:UInt8)(c:aV W R 1 ao l.length (bytes l))(b:l.length<=140737488351232):
  az W Tryz.prog 205 [.slice ao l.length cap,ib (v.toNat:Int)] R (.bool (decide (v∈l))) R:=by
 (refine aq.enter Tryz.func205 Tryz.ntmps205 rfl rfl ?_);refine zt (s:=KA v c b) (h:=?_);intro k a;refine w ?_;refine VE.ax rfl ?_ ?_
 · rw[<-a]
 · exact ae.refl
def ai.uK(s:ai):Bool:=decide ((3<=s.members/\s.members<=16)/\(1<=s.chunk/\s.chunk<=16)/\1<=s.bG/\s.bG<=256)
def ai.counts(s:ai):Bool:=decide ((1<=(s.events:Int)/\(s.events:Int)<=4611686018427387904)/\1<=(s.safe:Int)/\(s.safe:Int)<=s.events)
def qR(l:List UInt8)(i:Nat):Prop:=∀j (h:j<l.length),j<i->1<=l[j].toNat/\l[j].toNat<=3/\(l[j]=3->(3:UInt8)∉l.take j)
def ai.form(s:ai):Prop:=s.uK=true/\s.counts=true/\(0<=s.role/\s.role<=s.members)/\(5<=s.ring/\s.ring<=2048)/\(s.au.length:Int)=s.members
def ai.last(s:ai)(i:Nat):Int:=if(3:UInt8)∈s.au.take i then s.bG-1 else 0
def ai.yD(s:ai):Prop:=s.form/\qR s.au s.au.length/\0<=s.dc/\s.dc<=s.last s.au.length
def Mj(l:List UInt8):Nat->Bool
  |0=>true
  |i+1=>Mj l i&&(match l[i]? with
    |some x=>decide (1<=x.toNat/\x.toNat<=3/\(x=3->(3:UInt8)∉l.take i))
    |none=>true)
theorem zW(l:List UInt8):∀i,i<=l.length->(Mj l i=true↔qR l i)
  |0,_=>⟨λ_ j h a=>lcs a (by omega),λ_=>rfl⟩
  |i+1,g=>by
    have b:i<l.length:=by omega
    rw[Mj,mV,zW l i zO,fL b];simp only[decide_eq_true_eq];constructor
    · rintro⟨d,f⟩ j a c
      by_cases e:j=i
      · subst e;exact f
      · exact d j a zO
    · exact λh=>⟨λj a c=>h j a zO,h i b zO⟩
instance decGood (l:List UInt8):Decidable (qR l l.length):=decidable_of_iff _ (zW l l.length (eI _))
instance decForm (s:ai):Decidable s.form:=by unfold ai.form;exact inferInstance
instance decOk (s:ai):Decidable s.yD:=by unfold ai.yD;exact inferInstance
def ai.check(s:ai):Int:=if s.yD then 0 else 70
theorem AD{W:World}{R:List ab}(s:ai)(J:s.fit)(G:aV W R 1 s.so s.au.length (bytes s.au)):
  az W Tryz.prog 147 [.agg s.cells.toArray] R (i6 s.check) R:=by
 refine ze Tryz.func147 Tryz.ntmps147 ?_;refine zj λ_=>?_;refine w ?_;rename_i b;refine zq ?_;refine ay.aB AB rfl ?_;intro z;refine zw ?_;refine ay.gL (vs:=[ii s.members,ii s.chunk,ii s.bG]) ah rfl rfl rfl rfl (by simp[Value.oneCell']) zh (by simp) ?_;refine VO.aR (aP.aR (L:=Row z 36 [ii s.members,ii s.chunk,ii s.bG]::Row b 46 s.cells::R) (by(repeat exact .refl))) ?_;refine VO.nil rfl ?_;refine VE.next ?_;refine VC.seq rfl ?_;refine VC.qx [(1,ip b),(3,ip z),(4,.bool s.uK)] ?_ ?_
 ·
  intro N u;refine zr (s:=kZ s.members 3 16) (h:=?_);intro _ _;refine w ?_;refine zg ?_ ?_<;>intro c
  ·
   have q:=cI c;refine zr (s:=kZ s.chunk 1 16) (h:=?_);intro _ _;refine w ?_;refine zg ?_ ?_<;>intro c
   ·
    have n:=cI c;refine zr (s:=kZ s.bG 1 256) (h:=?_);intro _ _;refine w ?_;exact u.to () trivial ⟨rfl,rfl,b7 rfl (by congr 1;rw[Bool.eq_iff_iff];simp[ai.uK];omega),trivial⟩ ae.re
   ·
    have n:=dx c;refine w ?_;exact u.to () trivial ⟨rfl,rfl,b7 rfl (by congr 1;rw[Bool.eq_iff_iff];simp[ai.uK];omega),trivial⟩ ae.re
  ·
   have q:=dx c;refine w ?_;exact u.to () trivial ⟨rfl,rfl,b7 rfl (by congr 1;rw[Bool.eq_iff_iff];simp[ai.uK];omega),trivial⟩ ae.re
 refine VC.seq rfl ?_;refine VC.qx [(1,ip b),(3,ip z),(4,.bool s.uK),(5,.bool s.counts)] ?_ ?_
 ·
  intro N u;refine zr (s:=yx s.events 1 4611686018427387904) (h:=?_);intro _ _;refine w ?_;refine zg ?_ ?_<;>intro c
  ·
   have q:=cI c;refine zr (s:=yx s.safe 1 s.events) (h:=?_);intro _ _;refine w ?_;exact u.to () trivial ⟨rfl,rfl,rfl,b7 rfl (by congr 1;rw[Bool.eq_iff_iff];simp[ai.counts];omega),trivial⟩ ae.re
  ·
   have q:=dx c;refine w ?_;exact u.to () trivial ⟨rfl,rfl,rfl,b7 rfl (by congr 1;rw[Bool.eq_iff_iff];simp[ai.counts];omega),trivial⟩ ae.re
 have bad:¬s.form->s.check=70:=λh=>aE (λn=>h n.1);cases D:s.uK
 ·
  refine w ?_;refine VE.ax rfl ?_ ?_
  · rw[bad (λh=>by rw[h.1]at D;cases D)]
  · exact ae.re
 cases r:s.counts
 ·
  refine w ?_;refine VE.ax rfl ?_ ?_
  · rw[bad (λh=>by rw[h.2.1]at r;cases r)]
  · exact ae.re
 refine zr (s:=kZ s.role 0 s.members) (h:=?_);intro _ _;refine w ?_;refine zg ?_ ?_<;>intro c
 ·
  have q:¬(0<=s.role/\s.role<=s.members):=dx (by simpa only[Bool.not_eq_true']using c);refine w ?_;refine VE.ax rfl ?_ ?_
  · rw[bad (λh=>q h.2.2.1)]
  · exact ae.re
 have q:0<=s.role/\s.role<=s.members:=cI (by simpa only[Bool.not_eq_false']using c);refine zr (s:=kZ s.ring 5 2048) (h:=?_);intro _ _;refine w ?_;refine zg ?_ ?_<;>intro c
 ·
  have n:¬(5<=s.ring/\s.ring<=2048):=dx (by simpa only[Bool.not_eq_true']using c);refine w ?_;refine VE.ax rfl ?_ ?_
  · rw[bad (λh=>n h.2.2.2.1)]
  · exact ae.re
 have n:5<=s.ring/\s.ring<=2048:=cI (by simpa only[Bool.not_eq_false']using c);refine w ?_;refine zk ?_ ?_<;>intro g
 ·
  have p:¬(s.au.length:Int)=s.members:=by simpa using g
  refine w ?_;refine VE.ax rfl ?_ ?_
  · rw[bad (λh=>p h.2.2.2.2)]
  · exact ae.re
 have p:(s.au.length:Int)=s.members:=by simpa using g
 have t:s.form:=⟨D,r,q,n,p⟩;refine w ?_
 refine VC.loop (α:=Nat) (λi=>i<=s.au.length/\qR s.au i) (λ_=>Row z 36 [ii s.members,ii s.chunk,ii s.bG]::Row b 46 s.cells::R)
  (λi=>[(1,ip b),(3,ip z),(6,ii (s.last i)),(64,.slice s.so s.au.length s.sc),(65,ii s.au.length),(66,ii i)]) (λi=>s.au.length-i) rfl 0 ⟨c7 _,λj h F=>lcs F zO⟩ ae.refl ⟨rfl,rfl,b7 rfl (by simp[ai.last]),rfl,rfl,rfl,trivial⟩ ?_
 rintro i ⟨K,v⟩;have M:=J.len;have O:=J.cap;refine w ?_;refine zk ?_ ?_<;>intro g
 ·
  have f:i<s.au.length:=by have:=cI g;omega
  obtain⟨a,I⟩:∃a,s.so=some a:=by cases Q:s.so with|none=>have:=G.nil Q;omega|some a=>exact⟨a,rfl⟩
  have hr2:∀A B,aV W (A::B::R) 1 (some a) s.au.length (bytes s.au):=λA B=>by rw[<-I];exact G.aR (ae.drop (ae.drop ae.refl))
  rw[I];refine w ?_;refine VO.pure rfl rfl (af.rZ ah rfl rfl (hr2 _ _) (show(bytes s.au)[i]?=some (ib (s.au[i].toNat:Int))by simp[bytes,f];rfl)) rfl ?_;refine w ?_;have y:(s.au.take i).length=i:=by rw[j1,Nat.min_eq_left K]
  have H:∀A B,aV W (A::B::R) 1 s.so (s.au.take i).length (bytes (s.au.take i)):=λA B=>by
   have h:=aV.take (l:=i) (G.aR (ae.drop (ae.drop ae.refl):ae W (A::B::R) R)) K;rw[Nat.mul_one,show(bytes s.au).take i=bytes (s.au.take i)by simp[bytes]]at h;rw[y];exact h
  refine VO.re 74 (.slice s.so (s.au.take i).length s.sc) rfl (by rw[y]) ?_;refine zt (s:=C6 (3:UInt8) (H _ _) zO) (h:=?_);intro _ _;have d:¬(1<=s.au[i].toNat/\s.au[i].toNat<=3/\(s.au[i]=3->(3:UInt8)∉s.au.take i))->s.check=70:=λh=>aE (λn=>h (n.2.1 i f f));have m:(1<=s.au[i].toNat/\s.au[i].toNat<=3/\(s.au[i]=3->(3:UInt8)∉s.au.take i))->qR s.au (i+1):=λh j F P=>by
   by_cases e:j=i
   · subst e;exact h
   · exact v j F zO
  have k:s.last (i+1)=if s.au[i]=3 then s.bG-1 else s.last i:=by
   unfold ai.last;rw[nZ f];by_cases p:s.au[i]=3
   · rw[lam p,lam (List.mem_append_right _ (ju.2 p.symm))]
   ·
    have:¬(3:UInt8)=s.au[i]:=λh=>p h.symm;simp only[l0,ju,this,or_false,aE p]
  have o:((s.au[i].toNat:Int)==3)=decide (s.au[i]=3):=by
   rw[Bool.eq_iff_iff];simp only[beq_iff_eq,decide_eq_true_eq];constructor
   · intro h;exact UInt8.toNat_inj.1 (by show s.au[i].toNat=3;omega)
   · intro h;rw[h];rfl
  generalize s.au[i]=x at*;refine w ?_;refine zg ?_ ?_<;>intro c
  ·
   have g1:=cI c;refine w ?_;refine VE.ax rfl ?_ ?_
   · rw[d zO]
   · exact ae.re
  have g1:=dx c;refine w ?_;refine zg ?_ ?_<;>intro c
  ·
   have g2:=cI c;refine w ?_;refine VE.ax rfl ?_ ?_
   · rw[d zO]
   · exact ae.re
  have g2:=dx c;refine w ?_;refine zg ?_ ?_<;>intro c
  ·
   have g3:x=3:=cI (by rw[<-o];exact c);refine w ?_;refine zk ?_ ?_<;>intro g
   ·
    have g4:(3:UInt8)∈s.au.take i:=cI g;refine w ?_;refine VE.ax rfl ?_ ?_
    · rw[d (λh=>h.2.2 g3 g4)]
    · exact ae.re
   ·
    have g4:¬(3:UInt8)∈s.au.take i:=dx g;refine w ?_;refine VC.cU rfl rfl (by rw[o];exact ky g3) ?_;refine w ?_;have S:=(cI D).2.2;refine VE.round (i+1) ⟨f,m ⟨by omega,by omega,λ_=>g4⟩⟩ zO ⟨rfl,rfl,b7 rfl (by rw[k,lam g3,IntWalk.i64_in _ ⟨by omega,by omega⟩]),rfl,rfl,b7 rfl (by congr 1),trivial⟩ ae.re
  ·
   have g3:¬x=3:=dx (by rw[<-o];exact c);refine w ?_;refine VC.aK rfl rfl (by rw[o];exact gx g3) ?_;refine w ?_;refine VE.round (i+1) ⟨f,m ⟨by omega,by omega,λh=>lcs h g3⟩⟩ zO ⟨rfl,rfl,b7 rfl (by rw[k,aE g3]),rfl,rfl,b7 rfl (by congr 1),trivial⟩ ae.re
 ·
  have E:i=s.au.length:=by have:=dx g;omega
  subst E;refine zr (s:=kZ s.dc 0 (s.last s.au.length)) (h:=?_);intro _ _;refine w ?_;refine zk ?_ ?_<;>intro g
  ·
   have C:¬(0<=s.dc/\s.dc<=s.last s.au.length):=dx (by simpa only[Bool.not_eq_true']using g);refine w ?_;refine VE.ax rfl ?_ ?_
   · rw[show s.check=70 from aE (λh=>C ⟨h.2.2.1,h.2.2.2⟩)]
   · exact ae.re
  ·
   have C:0<=s.dc/\s.dc<=s.last s.au.length:=cI (by simpa only[Bool.not_eq_false']using g);refine w ?_;refine VE.ax rfl ?_ ?_
   · rw[show s.check=0 from lam ⟨t,v,C.1,C.2⟩]
   · exact ae.re
def ai.flags(s:ai):Nat:=mB s.lazy+2*mB s.lost
def ly:List UInt8:=[83,80,83,66,1,0,0,0]
theorem xq:ly=aJ 5407723603 8:=by decide+kernel
def ai.j3(s:ai):List (Nat×Nat):=[(5407723603,8),(s.id,8),(s.events,8),(s.safe,8),(s.role.toNat,1),(s.members.toNat,1),(s.chunk.toNat,1),(s.flags,1),(s.bG.toNat,2),(s.ring.toNat,2),(s.dc.toNat,2),(0,2)]
def ai.eT(s:ai)(k:Nat):List UInt8:=fq (s.j3.take k)++(if k=13 then s.au else[])
def ai.body(s:ai):List UInt8:=iI 124 (s.eT 13)
def ai.enc(s:ai):Int×List UInt8:=if s.yD then(0,cE s.body)else(70,[])
def lC(k:Nat):Nat:=[0,8,16,24,32,33,34,35,36,38,40,42,44].getD k 0
theorem DB(s:ai):s.eT 0=[]:=rfl
theorem DA(s:ai){k v w:Nat}(a:k<12)(h:s.j3[k]?=some (v,w)):s.eT (k+1)=s.eT k++aJ v w:=by
 unfold ai.eT;rw[aE zO,aE zO,mn,mn];have:s.j3.take (k+1)=s.j3.take k++[(v,w)]:=by
  rw[List.take_add_one,h];rfl
 rw[this,uu];simp[fq]
theorem wP(s:ai):s.eT 13=s.eT 12++s.au:=by
 unfold ai.eT;rw[lam rfl,aE (by decide),mn];rfl
theorem nD(s:ai)(k:Nat)(a:k<13):(s.eT k).length=lC k:=by
 unfold ai.eT;rw[aE zO,mn,fi];match k,a with
 |0,_=>rfl
 |1,_=>rfl
 |2,_=>rfl
 |3,_=>rfl
 |4,_=>rfl
 |5,_=>rfl
 |6,_=>rfl
 |7,_=>rfl
 |8,_=>rfl
 |9,_=>rfl
 |10,_=>rfl
 |11,_=>rfl
 |12,_=>rfl
theorem zY(s:ai):(s.eT 13).length=44+s.au.length:=by
 rw[wP,c9,nD s 12 (by decide)];rfl
theorem HS(k:Nat)(a:k<13):lC k<=44:=by
 rw[<-nD ⟨0,0,0,0,0,0,0,0,false,false,none,0,[],0⟩ k a];match k,a with
 |0,_=>decide+kernel
 |1,_=>decide+kernel
 |2,_=>decide+kernel
 |3,_=>decide+kernel
 |4,_=>decide+kernel
 |5,_=>decide+kernel
 |6,_=>decide+kernel
 |7,_=>decide+kernel
 |8,_=>decide+kernel
 |9,_=>decide+kernel
 |10,_=>decide+kernel
 |11,_=>decide+kernel
 |12,_=>decide+kernel
structure ai.In(s:ai):Prop where
  id:s.id<2^64
  events:s.events<2^64
  safe:s.safe<2^64
  role:0<=s.role/\s.role<=16
  members:3<=s.members/\s.members<=16
  chunk:1<=s.chunk/\s.chunk<=16
  bG:1<=s.bG/\s.bG<=256
  ring:5<=s.ring/\s.ring<=2048
  dc:0<=s.dc/\s.dc<=255
  len:(s.au.length:Int)=s.members
  HI:s.au.length<=16
theorem Gg{s:ai}(b:s.fit)(h:s.yD):s.In:=by
 obtain⟨⟨a,d,e,f,c⟩,g,i,j⟩:=h;unfold ai.uK at a;have a:=cI a;have k:s.last s.au.length<=255:=by
  unfold ai.last;split<;>omega
 exact⟨by have:=b.id;omega,by have:=b.events;omega,by have:=b.safe;omega,by omega,by omega,by omega,by omega,by omega,by omega,c,by omega⟩
theorem ai.In.Mk{s:ai}(h:s.In)(k:Nat)(a:k<=13):(s.eT k).length<=60:=by
 have:=h.HI;by_cases e:k=13
 · subst e;rw[zY];omega
 · rw[nD s k zO];have:=HS k zO;omega
theorem oG{s:ai}(h:s.In):s.body.length=124:=kM (by have:=h.Mk 13 (by decide);omega)
theorem lq{s:ai}(h:s.In):(cE s.body).length=128:=nN (oG h)
theorem rl(s:ai):cE s.body=fq s.j3++(s.au++(List.replicate (124-(s.eT 13).length) 0++aJ (cV s.body).toNat 4)):=by
 unfold cE;show iI 124 (s.eT 13)++aJ (cV s.body).toNat 4=_;unfold iI;rw[wP,show s.eT 12=fq s.j3 by unfold ai.eT;rw[aE (by decide),mn];rfl];simp only[lx]
theorem Dn(s:ai):s.flags<4:=by
 unfold ai.flags mB;split<;>split<;>omega
theorem PK{s:ai}(h:s.In):∀(k:Nat)(p:Nat×Nat),s.j3[k]?=some p->p.1<256^p.2:=by
 have n:=Dn s;obtain⟨b,c,d,f,g,i,j,l,m,_,_⟩:=h;intro k p a;have e:k<12:=(HE.1 a).1;match k,e with
 |0,_=>cases a;decide
 |1,_=>cases a;exact b
 |2,_=>cases a;exact c
 |3,_=>cases a;exact d
 |4,_=>cases a;simp only;omega
 |5,_=>cases a;simp only;omega
 |6,_=>cases a;simp only;omega
 |7,_=>cases a;simp only;omega
 |8,_=>cases a;simp only;omega
 |9,_=>cases a;simp only;omega
 |10,_=>cases a;simp only;omega
 |11,_=>cases a;decide
theorem JM(s:ai){k:Nat}(a:k<12):ov s.j3 k=lC k:=by
 match k,a with
 |0,_=>simp[ov,ai.j3,lC]
 |1,_=>simp[ov,ai.j3,lC]
 |2,_=>simp[ov,ai.j3,lC]
 |3,_=>simp[ov,ai.j3,lC]
 |4,_=>simp[ov,ai.j3,lC]
 |5,_=>simp[ov,ai.j3,lC]
 |6,_=>simp[ov,ai.j3,lC]
 |7,_=>simp[ov,ai.j3,lC]
 |8,_=>simp[ov,ai.j3,lC]
 |9,_=>simp[ov,ai.j3,lC]
 |10,_=>simp[ov,ai.j3,lC]
 |11,_=>simp[ov,ai.j3,lC]
theorem gk{s:ai}(h:s.In){k v w:Nat}(a:s.j3[k]?=some (v,w)):aO (cE s.body) (lC k) w=v:=by
 have b:k<12:=(HE.1 a).1;have:=q4 s.j3 k (v,w) (s.au++(List.replicate (124-(s.eT 13).length) 0++aJ (cV s.body).toNat 4)) a (PK h k _ a);rw[<-rl]at this;refine Eq.trans ?_ this;rw[JM s b]
theorem GA{s:ai}(h:s.In){i:Nat}{x:UInt8}(a:s.au[i]?=some x):aO (cE s.body) (44+i) 1=x.toNat:=by
 have d:=(HE.1 a).1;unfold aO;rw[rl];have e:(fq s.j3).length=44:=by rw[fi];rfl
 have b:(fq s.j3++(s.au++(List.replicate (124-(s.eT 13).length) 0++aJ (cV s.body).toNat 4))).drop (44+i)=(s.au++(List.replicate (124-(s.eT 13).length) 0++aJ (cV s.body).toNat 4)).drop i:=by
  rw[<-e,List.drop_append,List.drop_of_length_le zO];simp
 rw[b,Oh zO,Tj (by rw[CC];omega)];have c:(s.au.drop i).take 1=[x]:=by
  rw[vE d];have:s.au[i]=x:=(HE.1 a).2;simp[this]
 rw[c];simp[dE]
theorem Kf{s:ai}:(cE s.body).take 8=ly:=by
 rw[rl,xq];show(aJ 5407723603 8++fq (s.j3.drop 1)++_).take 8=_;rw[lx];exact DL (bV _ _)
theorem Ns{s:ai}(h:s.In):aO (cE s.body) 124 4=(cV ((cE s.body).take 124)).toNat:=by
 have a:=oG h;have b:(cE s.body).take 124=s.body:=by unfold cE;exact DL a
 rw[b];unfold aO;rw[show(cE s.body).drop 124=aJ (cV s.body).toNat 4 by unfold cE;exact List.drop_left' a,qy (by rw[bV];exact eI _),tf _ _ (Hm _)]
abbrev eV(g:FuncId):Value:= .func (.func g) #[] #[]
def qH(g:FuncId)(off:Nat):Prop:=(∀a w,(callFunc g a).run Tryz.prog w= .ok (.enter g a) w)/\∀(W:World)(H:List ab)(b:Nat),az W Tryz.prog g [ip b] H (.pointer (some ⟨b,off,none⟩)) H
theorem Kc:bM Tryz.prog 236 [.nilFunc,.nilFunc] [(0,1),(1,1)]:=⟨λw=>by simp,_,Tryz.underlying236,λw=>by simp⟩
theorem UE:cH Tryz.prog 231 236 (.agg #[.nilFunc,.nilFunc]) 2 16:=⟨by kernel_rfl,by kernel_rfl,rfl,by simp[Value.cells,Value.oneCell']⟩
theorem Qr:qH 214 0:=by
 refine⟨λ_ _=>by simp,λW H b=>?_⟩;refine ze Tryz.func214 Tryz.ntmps214 ?_;refine VE.ax rfl ?_ ?_
 · rfl
 · exact ae.refl
theorem y9:qH 215 1:=by
 refine⟨λ_ _=>by simp,λW H b=>?_⟩;refine ze Tryz.func215 Tryz.ntmps215 ?_;refine VE.ax rfl ?_ ?_
 · rfl
 · exact ae.refl
theorem Ha:qH 216 2:=by
 refine⟨λ_ _=>by simp,λW H b=>?_⟩;refine ze Tryz.func216 Tryz.ntmps216 ?_;refine VE.ax rfl ?_ ?_
 · rfl
 · exact ae.refl
theorem G9:qH 220 3:=by
 refine⟨λ_ _=>by simp,λW H b=>?_⟩;refine ze Tryz.func220 Tryz.ntmps220 ?_;refine VE.ax rfl ?_ ?_
 · rfl
 · exact ae.refl
theorem v7:qH 221 4:=by
 refine⟨λ_ _=>by simp,λW H b=>?_⟩;refine ze Tryz.func221 Tryz.ntmps221 ?_;refine VE.ax rfl ?_ ?_
 · rfl
 · exact ae.refl
theorem CP:qH 222 5:=by
 refine⟨λ_ _=>by simp,λW H b=>?_⟩;refine ze Tryz.func222 Tryz.ntmps222 ?_;refine VE.ax rfl ?_ ?_
 · rfl
 · exact ae.refl
theorem v8:qH 229 6:=by
 refine⟨λ_ _=>by simp,λW H b=>?_⟩;refine ze Tryz.func229 Tryz.ntmps229 ?_;refine VE.ax rfl ?_ ?_
 · rfl
 · exact ae.refl
theorem G8:qH 230 7:=by
 refine⟨λ_ _=>by simp,λW H b=>?_⟩;refine ze Tryz.func230 Tryz.ntmps230 ?_;refine VE.ax rfl ?_ ?_
 · rfl
 · exact ae.refl
theorem y8:qH 231 11:=by
 refine⟨λ_ _=>by simp,λW H b=>?_⟩;refine ze Tryz.func231 Tryz.ntmps231 ?_;refine VE.ax rfl ?_ ?_
 · rfl
 · exact ae.refl
theorem o3{W:World}{R:List ab}(p g a:FuncId):
  aq W Tryz.prog 211 [eV p,eV g,eV a] R (β:=Nat×Nat×Nat) (λ_=>True)
   (λx=>.agg #[.func (.func 273) #[] #[ip x.1,ip x.2.2],.func (.func 274) #[] #[ip x.2.1,ip x.2.2]])
   (λx=>Row x.2.2 319 [eV a]::Row x.2.1 316 [eV g]::Row x.1 314 [eV p]::R):=by
 refine ze Tryz.func211 Tryz.ntmps211 ?_;repeat (refine zj λ_=>?_;refine w ?_)
 rename_i b c d;refine zq ?_;refine ay.aB Kc rfl ?_;intro e;refine w ?_;refine VO.pure rfl rfl (af.bB rfl) rfl ?_;refine w ?_;refine VO.pure rfl rfl (af.bB rfl) rfl ?_;refine w ?_;apply VO.pure rfl rfl;apply af.build Kc rfl;simp[aC,bR,Value.cells];rfl;rfl;refine zq ?_;refine ay.gL ah rfl rfl rfl rfl (by simp[Value.oneCell']) zh (by simp) ?_;refine w ?_;refine VE.results1 (.inl rfl) (b,c,d) rfl (aL.agg ah rfl rfl zm rfl rfl) trivial rfl ae.re
theorem xK{W:World}{R:List ab}{e c:Nat}{d:FuncId}{off v p:Nat}{k:Pk}{cs:List Value}(g:Row e 314 [eV 212]∈R)(f:Row c 319 [eV d]∈R)(a:qH d off)(b:cs[off]?=some (i8 v)):
  az W Tryz.prog 273 [ip p,.agg cs.toArray,ip e,ip c] (aH p k::R) (.tuple #[]) (aH p (k.number v 8)::R):=by
 refine ze Tryz.func273 Tryz.ntmps273 ?_;refine zj λ_=>?_;refine w ?_;rename_i sb;refine zx [3] 6 [0,1,2,3,4,5,6] _ ?_;refine VD.take rfl rfl rfl (af.ld ah rfl rfl (.tail _ (.tail _ g)) rfl) rfl ?_;refine w ?_;refine VD.take rfl rfl rfl (af.ld ah rfl rfl (.tail _ (.tail _ f)) rfl) rfl ?_;refine zq ?_;refine ay.call rfl rfl a.1 (a.2 W _ sb) ae.refl rfl ?_;intro _ _;refine w ?_;refine VD.take rfl rfl rfl (af.ld ah rfl rfl (.head _) b) rfl ?_;refine zr (s:=GL p k v) (h:=?_);intro _ _;refine w ?_;refine VE.b9 rfl rfl ?_;exact ae.re
theorem wM{W:World}{R:List ab}{e c:Nat}{d:FuncId}{off r sb:Nat}{k:Rk}{cs:List Value}(g:Row e 316 [eV 213]∈R)(f:Row c 319 [eV d]∈R)(a:qH d off)(b:off<cs.length):
  az W Tryz.prog 274 [ip r,ip sb,ip e,ip c] (aF r k::Row sb 46 cs::R) (.tuple #[])
   (aF r (k.number 8)::Row sb 46 (cs.set off (i8 (dE (k.jk 8))))::R):=by
 (refine aq.enter Tryz.func274 Tryz.ntmps274 rfl rfl ?_);refine zx [2] 5 [0,1,3,4,2,5,6,7] _ ?_;refine VD.take rfl rfl rfl (af.ld ah rfl rfl (.tail _ (.tail _ f)) rfl) rfl ?_;refine w ?_;refine VD.take rfl rfl rfl (af.ld ah rfl rfl (.tail _ (.tail _ g)) rfl) rfl ?_;refine zw ?_;refine ay.call rfl rfl a.1 (a.2 W _ sb) ae.refl rfl ?_;intro _ _;refine zr (s:=Gp r k) (h:=?_);intro _ _;refine w ?_;refine zw ?_;refine ay.st ah rfl rfl rfl rfl zh (by simpa using b) ?_;refine w ?_;refine VE.b9 rfl rfl ?_;exact ae.re
theorem q5{W:World}{R:List ab}(p g a:FuncId):
  aq W Tryz.prog 217 [eV p,eV g,eV a] R (β:=Nat×Nat×Nat) (λ_=>True)
   (λx=>.agg #[.func (.func 276) #[] #[ip x.1,ip x.2.2],.func (.func 277) #[] #[ip x.2.1,ip x.2.2]])
   (λx=>Row x.2.2 325 [eV a]::Row x.2.1 323 [eV g]::Row x.1 321 [eV p]::R):=by
 refine ze Tryz.func217 Tryz.ntmps217 ?_;repeat (refine zj λ_=>?_;refine w ?_)
 rename_i b c d;refine zq ?_;refine ay.aB Kc rfl ?_;intro e;refine w ?_;refine VO.pure rfl rfl (af.bB rfl) rfl ?_;refine w ?_;refine VO.pure rfl rfl (af.bB rfl) rfl ?_;refine w ?_;apply VO.pure rfl rfl;apply af.build Kc rfl;simp[aC,bR,Value.cells];rfl;rfl;refine zq ?_;refine ay.gL ah rfl rfl rfl rfl (by simp[Value.oneCell']) zh (by simp) ?_;refine w ?_;refine VE.results1 (.inl rfl) (b,c,d) rfl (aL.agg ah rfl rfl zm rfl rfl) trivial rfl ae.re
theorem BY{W:World}{R:List ab}{e c:Nat}{d:FuncId}{off v p:Nat}{k:Pk}{cs:List Value}(g:Row e 321 [eV 218]∈R)(f:Row c 325 [eV d]∈R)(a:qH d off)(b:cs[off]?=some (ii v))(i:v<2^8):
  az W Tryz.prog 276 [ip p,.agg cs.toArray,ip e,ip c] (aH p k::R) (.tuple #[]) (aH p (k.number v 1)::R):=by
 refine ze Tryz.func276 Tryz.ntmps276 ?_;refine zj λ_=>?_;refine w ?_;rename_i sb;refine zx [3] 7 [0,1,2,3,4,5,6,7] _ ?_;refine VD.take rfl rfl rfl (af.ld ah rfl rfl (.tail _ (.tail _ g)) rfl) rfl ?_;refine w ?_;refine VD.take rfl rfl rfl (af.ld ah rfl rfl (.tail _ (.tail _ f)) rfl) rfl ?_;refine zq ?_;refine ay.call rfl rfl a.1 (a.2 W _ sb) ae.refl rfl ?_;intro _ _;refine w ?_;refine VD.take rfl rfl rfl (af.ld ah rfl rfl (.head _) b) rfl ?_;refine w ?_;refine VD.re 12 (ib v) rfl (by rw[E1,nE i]) ?_;refine zr (s:=N1 p k v zO) (h:=?_);intro _ _;refine w ?_;refine VE.b9 rfl rfl ?_;exact ae.re
theorem Bs{W:World}{R:List ab}{e c:Nat}{d:FuncId}{off r sb:Nat}{k:Rk}{cs:List Value}(g:Row e 323 [eV 219]∈R)(f:Row c 325 [eV d]∈R)(a:qH d off)(b:off<cs.length):
  az W Tryz.prog 277 [ip r,ip sb,ip e,ip c] (aF r k::Row sb 46 cs::R) (.tuple #[])
   (aF r (k.number 1)::Row sb 46 (cs.set off (ii (dE (k.jk 1))))::R):=by
 (refine aq.enter Tryz.func277 Tryz.ntmps277 rfl rfl ?_);refine zx [2] 5 [0,1,3,4,2,5,6,7,8] _ ?_;refine VD.take rfl rfl rfl (af.ld ah rfl rfl (.tail _ (.tail _ f)) rfl) rfl ?_;refine w ?_;refine VD.take rfl rfl rfl (af.ld ah rfl rfl (.tail _ (.tail _ g)) rfl) rfl ?_;refine zw ?_;refine ay.call rfl rfl a.1 (a.2 W _ sb) ae.refl rfl ?_;intro _ _;refine zr (s:=M5 r k) (h:=?_);intro _ _;refine w ?_;refine VD.re 12 (ii (dE (k.jk 1))) rfl (by rw[IntWalk.i64_in _ ⟨by omega,by have:=sZ k 1;omega⟩]) ?_;refine zw ?_;refine ay.st ah rfl rfl rfl rfl zh (by simpa using b) ?_;refine w ?_;refine VE.b9 rfl rfl ?_;exact ae.re
theorem o0{W:World}{R:List ab}(p g a:FuncId):
  aq W Tryz.prog 226 [eV p,eV g,eV a] R (β:=Nat×Nat×Nat) (λ_=>True)
   (λx=>.agg #[.func (.func 278) #[] #[ip x.1,ip x.2.2],.func (.func 279) #[] #[ip x.2.1,ip x.2.2]])
   (λx=>Row x.2.2 325 [eV a]::Row x.2.1 330 [eV g]::Row x.1 328 [eV p]::R):=by
 refine ze Tryz.func226 Tryz.ntmps226 ?_;repeat (refine zj λ_=>?_;refine w ?_)
 rename_i b c d;refine zq ?_;refine ay.aB Kc rfl ?_;intro e;refine w ?_;refine VO.pure rfl rfl (af.bB rfl) rfl ?_;refine w ?_;refine VO.pure rfl rfl (af.bB rfl) rfl ?_;refine w ?_;apply VO.pure rfl rfl;apply af.build Kc rfl;simp[aC,bR,Value.cells];rfl;rfl;refine zq ?_;refine ay.gL ah rfl rfl rfl rfl (by simp[Value.oneCell']) zh (by simp) ?_;refine w ?_;refine VE.results1 (.inl rfl) (b,c,d) rfl (aL.agg ah rfl rfl zm rfl rfl) trivial rfl ae.re
theorem xJ{W:World}{R:List ab}{e c:Nat}{d:FuncId}{off v p:Nat}{k:Pk}{cs:List Value}(g:Row e 328 [eV 227]∈R)(f:Row c 325 [eV d]∈R)(a:qH d off)(b:cs[off]?=some (ii v))(i:v<2^16):
  az W Tryz.prog 278 [ip p,.agg cs.toArray,ip e,ip c] (aH p k::R) (.tuple #[]) (aH p (k.number v 2)::R):=by
 refine ze Tryz.func278 Tryz.ntmps278 ?_;refine zj λ_=>?_;refine w ?_;rename_i sb;refine zx [3] 7 [0,1,2,3,4,5,6,7] _ ?_;refine VD.take rfl rfl rfl (af.ld ah rfl rfl (.tail _ (.tail _ g)) rfl) rfl ?_;refine w ?_;refine VD.take rfl rfl rfl (af.ld ah rfl rfl (.tail _ (.tail _ f)) rfl) rfl ?_;refine zq ?_;refine ay.call rfl rfl a.1 (a.2 W _ sb) ae.refl rfl ?_;intro _ _;refine w ?_;refine VD.take rfl rfl rfl (af.ld ah rfl rfl (.head _) b) rfl ?_;refine w ?_;refine VD.re 12 (i6 v) rfl (by rw[AT,nE i]) ?_;refine zr (s:=NZ p k v zO) (h:=?_);intro _ _;refine w ?_;refine VE.b9 rfl rfl ?_;exact ae.re
theorem wL{W:World}{R:List ab}{e c:Nat}{d:FuncId}{off r sb:Nat}{k:Rk}{cs:List Value}(g:Row e 330 [eV 228]∈R)(f:Row c 325 [eV d]∈R)(a:qH d off)(b:off<cs.length):
  az W Tryz.prog 279 [ip r,ip sb,ip e,ip c] (aF r k::Row sb 46 cs::R) (.tuple #[])
   (aF r (k.number 2)::Row sb 46 (cs.set off (ii (dE (k.jk 2))))::R):=by
 (refine aq.enter Tryz.func279 Tryz.ntmps279 rfl rfl ?_);refine zx [2] 5 [0,1,3,4,2,5,6,7,8] _ ?_;refine VD.take rfl rfl rfl (af.ld ah rfl rfl (.tail _ (.tail _ f)) rfl) rfl ?_;refine w ?_;refine VD.take rfl rfl rfl (af.ld ah rfl rfl (.tail _ (.tail _ g)) rfl) rfl ?_;refine zw ?_;refine ay.call rfl rfl a.1 (a.2 W _ sb) ae.refl rfl ?_;intro _ _;refine zr (s:=R8 r k) (h:=?_);intro _ _;refine w ?_;refine VD.re 12 (ii (dE (k.jk 2))) rfl (by rw[IntWalk.i64_in _ ⟨by omega,by have:=sZ k 2;omega⟩]) ?_;refine zw ?_;refine ay.st ah rfl rfl rfl rfl zh (by simpa using b) ?_;refine w ?_;refine VE.b9 rfl rfl ?_;exact ae.re
end Go.Proofs.YtldolcbbmnmjoaaGreat
namespace Go.Proofs.YtldolcbbmnmjoaaGreat
open Go.RowKit Go.Sl
attribute [local irreducible] Own
def boxes(x:Nat->Nat×Nat×Nat):List ab:=[Row (x 0).1 314 [eV 212],Row (x 0).2.1 316 [eV 213],Row (x 0).2.2 319 [eV 214],Row (x 1).1 314 [eV 212],Row (x 1).2.1 316 [eV 213],Row (x 1).2.2 319 [eV 215],Row (x 2).1 314 [eV 212],Row (x 2).2.1 316 [eV 213],Row (x 2).2.2 319 [eV 216],Row (x 3).1 321 [eV 218],Row (x 3).2.1 323 [eV 219],Row (x 3).2.2 325 [eV 220],Row (x 4).1 321 [eV 218],Row (x 4).2.1 323 [eV 219],Row (x 4).2.2 325 [eV 221],Row (x 5).1 321 [eV 218],Row (x 5).2.1 323 [eV 219],Row (x 5).2.2 325 [eV 222],Row (x 6).1 328 [eV 227],Row (x 6).2.1 330 [eV 228],Row (x 6).2.2 325 [eV 229],Row (x 7).1 328 [eV 227],Row (x 7).2.1 330 [eV 228],Row (x 7).2.2 325 [eV 230],Row (x 8).1 328 [eV 227],Row (x 8).2.1 330 [eV 228],Row (x 8).2.2 325 [eV 231]]
def dK(x:Nat->Nat×Nat×Nat):List (Value×Value):=[(eV 206,eV 209),(.func (.func 273) #[] #[ip ((x 0).1),ip ((x 0).2.2)],.func (.func 274) #[] #[ip ((x 0).2.1),ip ((x 0).2.2)]),(.func (.func 273) #[] #[ip ((x 1).1),ip ((x 1).2.2)],.func (.func 274) #[] #[ip ((x 1).2.1),ip ((x 1).2.2)]),(.func (.func 273) #[] #[ip ((x 2).1),ip ((x 2).2.2)],.func (.func 274) #[] #[ip ((x 2).2.1),ip ((x 2).2.2)]),(.func (.func 276) #[] #[ip ((x 3).1),ip ((x 3).2.2)],.func (.func 277) #[] #[ip ((x 3).2.1),ip ((x 3).2.2)]),(.func (.func 276) #[] #[ip ((x 4).1),ip ((x 4).2.2)],.func (.func 277) #[] #[ip ((x 4).2.1),ip ((x 4).2.2)]),(.func (.func 276) #[] #[ip ((x 5).1),ip ((x 5).2.2)],.func (.func 277) #[] #[ip ((x 5).2.1),ip ((x 5).2.2)]),(eV 223,eV 225),(.func (.func 278) #[] #[ip ((x 6).1),ip ((x 6).2.2)],.func (.func 279) #[] #[ip ((x 6).2.1),ip ((x 6).2.2)]),(.func (.func 278) #[] #[ip ((x 7).1),ip ((x 7).2.2)],.func (.func 279) #[] #[ip ((x 7).2.1),ip ((x 7).2.2)]),(.func (.func 278) #[] #[ip ((x 8).1),ip ((x 8).2.2)],.func (.func 279) #[] #[ip ((x 8).2.1),ip ((x 8).2.2)]),(eV 232,eV 233),(eV 235,eV 236)]
theorem aN(x:Nat->Nat×Nat×Nat):(dK x).length=13:=rfl
def dm(x:Nat->Nat×Nat×Nat):List Value:=(dK x).flatMap λp=>[p.1,p.2]
theorem iY(x:Nat->Nat×Nat×Nat):∀u∈dm x,u.oneCell'=true:=by
 intro u a;simp[dm,dK]at a;rcases a with rfl|rfl|rfl|rfl|rfl|rfl|rfl|rfl|rfl|rfl|rfl|rfl|rfl|rfl|rfl|rfl|rfl|rfl|rfl|rfl|rfl|rfl|rfl|rfl|rfl|rfl<;>rfl
theorem qw(x:Nat->Nat×Nat×Nat)(k:Nat)(a:k<13):((dm x).drop (k*2)).take 2=[((dK x)[k]'(by rw[aN];exact a)).1,((dK x)[k]'(by rw[aN];exact a)).2]:=
 dW (dK x) k (by rw[aN];exact a) (λ_ _=>rfl)
theorem zN{W:World}{R:List ab}:
  aq W Tryz.prog 149 [] R (β:=(Nat->Nat×Nat×Nat)×Nat) (λ_=>True) (λy=>.slice (ik y.2) 13 13) (λy=>Row y.2 236 (dm y.1)::(boxes y.1++R)):=by
 refine ze Tryz.func149 Tryz.ntmps149 ?_;apply VO.pure rfl rfl;apply af.build Kc rfl;simp[aC,bR,Value.cells];rfl;rfl;refine zt (s:=o3 212 213 214) (h:=?_);rintro⟨e,g0,a0⟩-;refine zt (s:=o3 212 213 215) (h:=?_);rintro⟨f,g1,a⟩-;refine zt (s:=o3 212 213 216) (h:=?_);rintro⟨g,g2,a2⟩-;refine zt (s:=q5 218 219 220) (h:=?_);rintro⟨j,g3,a3⟩-;refine zt (s:=q5 218 219 221) (h:=?_);rintro⟨k,g4,a4⟩-;refine zt (s:=q5 218 219 222) (h:=?_);rintro⟨l,g5,a5⟩-;refine w ?_;apply VO.pure rfl rfl;apply af.build Kc rfl;simp[aC,bR,Value.cells];rfl;rfl;refine zt (s:=o0 227 228 229) (h:=?_);rintro⟨m,g6,b⟩-;refine zt (s:=o0 227 228 230) (h:=?_);rintro⟨n,g7,c⟩-;refine zt (s:=o0 227 228 231) (h:=?_);rintro⟨o,g8,d⟩-;refine w ?_;apply VO.pure rfl rfl;apply af.build Kc rfl;simp[aC,bR,Value.cells];rfl;rfl;refine w ?_;apply VO.pure rfl rfl;apply af.build Kc rfl;simp[aC,bR,Value.cells];rfl;rfl;refine zw ?_;refine ay.buildSlice (cs:=dm (λi=>[(e,g0,a0),(f,g1,a),(g,g2,a2),(j,g3,a3),(k,g4,a4),(l,g5,a5),(m,g6,b),(n,g7,c),(o,g8,d)].getD i (0,0,0))) UE rfl rfl (by simp[Value.cells]) rfl (by decide) rfl ?_;intro nb;refine w ?_;refine VE.done (λi=>[(e,g0,a0),(f,g1,a),(g,g2,a2),(j,g3,a3),(k,g4,a4),(l,g5,a5),(m,g6,b),(n,g7,c),(o,g8,d)].getD i (0,0,0),nb) rfl trivial rfl ?_;show ae W _ (Row nb 236 _::([Row e 314 [eV 212],Row g0 316 [eV 213],Row a0 319 [eV 214],Row f 314 [eV 212],Row g1 316 [eV 213],Row a 319 [eV 215],Row g 314 [eV 212],Row g2 316 [eV 213],Row a2 319 [eV 216],Row j 321 [eV 218],Row g3 323 [eV 219],Row a3 325 [eV 220],Row k 321 [eV 218],Row g4 323 [eV 219],Row a4 325 [eV 221],Row l 321 [eV 218],Row g5 323 [eV 219],Row a5 325 [eV 222],Row m 328 [eV 227],Row g6 330 [eV 228],Row b 325 [eV 229],Row n 328 [eV 227],Row g7 330 [eV 228],Row c 325 [eV 230],Row o 328 [eV 227],Row g8 330 [eV 228],Row d 325 [eV 231]]++R));exact ae.re
theorem tk{W:World}{R:List ab}:aq W Tryz.prog 208 [] R (β:=Nat) (λ_=>True) (λb=>.slice (ik b) 8 8) (λb=>Fb b 5 (bytes ly)::R):=by
 refine ze Tryz.func208 Tryz.ntmps208 ?_;refine zq ?_;refine ay.bP eH rfl rfl (by simp[Value.oneCell']) (by decide) rfl ?_;intro nb;refine zq ?_;refine ay.Am ah rfl rfl rfl zh rfl ?_;refine w ?_;refine VE.done nb rfl trivial rfl ?_;exact ae.refl
theorem OF{W:World}{R:List ab}(s:ai):az W Tryz.prog 224 [.agg s.cells.toArray] R (ib s.flags) R:=by
 refine ze Tryz.func224 Tryz.ntmps224 ?_;refine zj λ_=>?_;refine w ?_;rename_i b;have c:s.flags=mB s.lazy+2*mB s.lost:=rfl;refine VC.qx [(1,ip b),(3,ib (mB s.lazy))] (λe d=>?_) ?_
 ·
  refine zk ?_ ?_<;>intro a
  ·
   refine w ?_;refine d.to () trivial ⟨rfl,b7 rfl (by rw[a];rfl),trivial⟩ ae.refl
  ·
   refine w ?_;refine d.to () trivial ⟨rfl,b7 rfl (by rw[a];rfl),trivial⟩ ae.refl
 refine w ?_;refine VC.qx [(3,ib s.flags)] (λe d=>?_) ?_
 ·
  refine zk ?_ ?_<;>intro a
  ·
   refine w ?_;refine d.to () trivial ⟨b7 rfl (by rw[c,a];cases s.lazy<;>rfl),trivial⟩ ae.refl
  ·
   refine w ?_;refine d.to () trivial ⟨b7 rfl (by rw[c,a];cases s.lazy<;>rfl),trivial⟩ ae.refl
 refine w ?_;refine VE.ax rfl ?_ ?_
 · rfl
 · exact ae.re
def rF(W:World)(s:ai)(R:List ab)(k:Nat)(v:Value):Prop:=
  ∃(g:FuncId)(cap:Array Value),v= .func (.func g) #[] cap/\(∀a w,(callFunc g a).run Tryz.prog w= .ok (.enter g a) w)/\
    ∀p,az W Tryz.prog g ([ip p,.agg s.cells.toArray]++cap.toList) (aH p ⟨128,s.eT k,0⟩::R) (.tuple #[]) (aH p ⟨128,s.eT (k+1),0⟩::R)
theorem jc{s:ai}(h:s.In){k v w:Nat}(a:k<12)(c:w<=8)(b:s.j3[k]?=some (v,w)):(Pk.mk 128 (s.eT k) 0).number v w=⟨128,s.eT (k+1),0⟩:=by
 rw[Pk.cA rfl (by have:=h.Mk k zO;simp only;omega),DA s a b]
theorem mC{z:Int}(h:0<=z):some (Value.int .i64 z)=some (Value.int .i64 ((z.toNat:Nat):Int)):=by rw[BF h]
section
variable{W:World}{s:ai}{R:List ab}{x:Nat->Nat×Nat×Nat}
theorem PV(h:s.In)(a:∀q∈boxes x,q∈R):rF W s R 1 ((dK x)[1]'(by rw[aN];decide)).1:=by
 refine⟨_,_,rfl,λ_ _=>by simp,λp=>?_⟩;have q:=xK (W:=W) (R:=R) (v:=s.id) (p:=p) (k:=⟨128,s.eT 1,0⟩) (cs:=s.cells) (a (Row (x 0).1 _ _) (by simp[boxes])) (a (Row (x 0).2.2 _ _) (by simp[boxes])) Qr rfl;rw[jc h (by decide) (by decide) rfl]at q;exact q
theorem Ek(h:s.In)(a:∀q∈boxes x,q∈R):rF W s R 2 ((dK x)[2]'(by rw[aN];decide)).1:=by
 refine⟨_,_,rfl,λ_ _=>by simp,λp=>?_⟩;have q:=xK (W:=W) (R:=R) (v:=s.events) (p:=p) (k:=⟨128,s.eT 2,0⟩) (cs:=s.cells) (a (Row (x 1).1 _ _) (by simp[boxes])) (a (Row (x 1).2.2 _ _) (by simp[boxes])) y9 rfl;rw[jc h (by decide) (by decide) rfl]at q;exact q
theorem JY(h:s.In)(a:∀q∈boxes x,q∈R):rF W s R 3 ((dK x)[3]'(by rw[aN];decide)).1:=by
 refine⟨_,_,rfl,λ_ _=>by simp,λp=>?_⟩;have q:=xK (W:=W) (R:=R) (v:=s.safe) (p:=p) (k:=⟨128,s.eT 3,0⟩) (cs:=s.cells) (a (Row (x 2).1 _ _) (by simp[boxes])) (a (Row (x 2).2.2 _ _) (by simp[boxes])) Ha rfl;rw[jc h (by decide) (by decide) rfl]at q;exact q
theorem JX(h:s.In)(a:∀q∈boxes x,q∈R):rF W s R 4 ((dK x)[4]'(by rw[aN];decide)).1:=by
 refine⟨_,_,rfl,λ_ _=>by simp,λp=>?_⟩;have q:=BY (W:=W) (R:=R) (v:=s.role.toNat) (p:=p) (k:=⟨128,s.eT 4,0⟩) (cs:=s.cells) (a (Row (x 3).1 _ _) (by simp[boxes])) (a (Row (x 3).2.2 _ _) (by simp[boxes])) G9 (mC (by have:=h.role;omega)) (by have:=h.role;omega);rw[jc h (by decide) (by decide) rfl]at q;exact q
theorem B2(h:s.In)(a:∀q∈boxes x,q∈R):rF W s R 5 ((dK x)[5]'(by rw[aN];decide)).1:=by
 refine⟨_,_,rfl,λ_ _=>by simp,λp=>?_⟩;have q:=BY (W:=W) (R:=R) (v:=s.members.toNat) (p:=p) (k:=⟨128,s.eT 5,0⟩) (cs:=s.cells) (a (Row (x 4).1 _ _) (by simp[boxes])) (a (Row (x 4).2.2 _ _) (by simp[boxes])) v7 (mC (by have:=h.members;omega)) (by have:=h.members;omega);rw[jc h (by decide) (by decide) rfl]at q;exact q
theorem Gm(h:s.In)(a:∀q∈boxes x,q∈R):rF W s R 6 ((dK x)[6]'(by rw[aN];decide)).1:=by
 refine⟨_,_,rfl,λ_ _=>by simp,λp=>?_⟩;have q:=BY (W:=W) (R:=R) (v:=s.chunk.toNat) (p:=p) (k:=⟨128,s.eT 6,0⟩) (cs:=s.cells) (a (Row (x 5).1 _ _) (by simp[boxes])) (a (Row (x 5).2.2 _ _) (by simp[boxes])) CP (mC (by have:=h.chunk;omega)) (by have:=h.chunk;omega);rw[jc h (by decide) (by decide) rfl]at q;exact q
theorem B3(h:s.In)(a:∀q∈boxes x,q∈R):rF W s R 8 ((dK x)[8]'(by rw[aN];decide)).1:=by
 refine⟨_,_,rfl,λ_ _=>by simp,λp=>?_⟩;have q:=xJ (W:=W) (R:=R) (v:=s.bG.toNat) (p:=p) (k:=⟨128,s.eT 8,0⟩) (cs:=s.cells) (a (Row (x 6).1 _ _) (by simp[boxes])) (a (Row (x 6).2.2 _ _) (by simp[boxes])) v8 (mC (by have:=h.bG;omega)) (by have:=h.bG;omega);rw[jc h (by decide) (by decide) rfl]at q;exact q
theorem JW(h:s.In)(a:∀q∈boxes x,q∈R):rF W s R 9 ((dK x)[9]'(by rw[aN];decide)).1:=by
 refine⟨_,_,rfl,λ_ _=>by simp,λp=>?_⟩;have q:=xJ (W:=W) (R:=R) (v:=s.ring.toNat) (p:=p) (k:=⟨128,s.eT 9,0⟩) (cs:=s.cells) (a (Row (x 7).1 _ _) (by simp[boxes])) (a (Row (x 7).2.2 _ _) (by simp[boxes])) G8 (mC (by have:=h.ring;omega)) (by have:=h.ring;omega);rw[jc h (by decide) (by decide) rfl]at q;exact q
theorem Ej(h:s.In)(a:∀q∈boxes x,q∈R):rF W s R 10 ((dK x)[10]'(by rw[aN];decide)).1:=by
 refine⟨_,_,rfl,λ_ _=>by simp,λp=>?_⟩;have q:=xJ (W:=W) (R:=R) (v:=s.dc.toNat) (p:=p) (k:=⟨128,s.eT 10,0⟩) (cs:=s.cells) (a (Row (x 8).1 _ _) (by simp[boxes])) (a (Row (x 8).2.2 _ _) (by simp[boxes])) y8 (mC (by have:=h.dc;omega)) (by have:=h.dc;omega);rw[jc h (by decide) (by decide) rfl]at q;exact q
theorem Gn(h:s.In):rF W s R 0 ((dK x)[0]'(by rw[aN];decide)).1:=by
 refine⟨_,_,rfl,λ_ _=>by simp,λp=>?_⟩;refine ze Tryz.func206 Tryz.ntmps206 ?_;refine zj λ_=>?_;refine zr (s:=tk) (h:=?_);intro b _;refine zr (s:=B4 (R:=Fb b 5 (bytes ly)::R) (l:=ly) p ⟨128,s.eT 0,0⟩ (aV.RK (aQ _) (.head _) rfl)) (h:=?_);intro _ _;rw[Pk.xM rfl (by rw[DB];decide)];dsimp only;rw[xq,<-DA s (k:=0) (by decide) rfl];refine w ?_;refine VE.b9 rfl rfl ?_;exact ae.re
theorem JV(h:s.In):rF W s R 7 ((dK x)[7]'(by rw[aN];decide)).1:=by
 refine⟨_,_,rfl,λ_ _=>by simp,λp=>?_⟩;have a:=Dn s;refine ze Tryz.func223 Tryz.ntmps223 ?_;refine zj λ_=>?_;refine zt (s:=OF s) (h:=?_);intro _ _;refine zr (s:=N1 p ⟨128,s.eT 7,0⟩ s.flags zO) (h:=?_);intro _ _;rw[jc h (by decide) (by decide) rfl];refine w ?_;refine VE.b9 rfl rfl ?_;exact ae.re
theorem JZ(h:s.In):rF W s R 11 ((dK x)[11]'(by rw[aN];decide)).1:=by
 refine⟨_,_,rfl,λ_ _=>by simp,λp=>?_⟩;refine ze Tryz.func232 Tryz.ntmps232 ?_;refine zj λ_=>?_;refine zr (s:=NZ p ⟨128,s.eT 11,0⟩ 0 zO) (h:=?_);intro _ _;rw[jc h (by decide) (by decide) rfl];refine w ?_;refine VE.b9 rfl rfl ?_;exact ae.re
theorem Uc(c:UInt8):aJ c.toNat 1=[c]:=by simp[aJ]
theorem El(h:s.In)(g:aV W R 1 s.so s.au.length (bytes s.au)):rF W s R 12 ((dK x)[12]'(by rw[aN];decide)).1:=by
 refine⟨_,_,rfl,λ_ _=>by simp,λp=>?_⟩;have k:=h.HI;have c:=nD s 12 (by decide);rw[show lC 12=44 from rfl]at c;refine ze Tryz.func235 Tryz.ntmps235 ?_;refine zj λ_=>?_;refine w ?_;rename_i b
 refine VC.loop (α:=Nat) (λi=>i<=s.au.length) (λi=>Row b 46 s.cells::aH p ⟨128,s.eT 12++s.au.take i,0⟩::R)
  (λi=>[(0,ip p),(7,.slice s.so s.au.length s.sc),(8,ii s.au.length),(9,ii i)]) (λi=>s.au.length-i) rfl 0 (c7 _) (by rw[DK,mn];exact ae.refl) zB ?_
 intro i m;refine w ?_;refine zk ?_ ?_<;>intro j
 ·
  have f:i<s.au.length:=by have:=cI j;omega
  obtain⟨a,d⟩:∃a,s.so=some a:=by cases l:s.so with|none=>have:=g.nil l;omega|some a=>exact⟨a,rfl⟩
  rw[d]at g;have hb1:aV W (Row b 46 s.cells::aH p ⟨128,s.eT 12++s.au.take i,0⟩::R) 1 (some a) s.au.length (bytes s.au):=g.aR (ae.drop (ae.drop ae.refl));refine VC.re 7 (.slice (some a) s.au.length s.sc) rfl (by rw[d]) ?_;refine zr (s:=N1 p ⟨128,s.eT 12++s.au.take i,0⟩ s.au[i].toNat (by have:=s.au[i].toNat_lt;omega)) (h:=?_);intro _ _;rw[Pk.cA rfl (by simp only[c9,j1];omega)];dsimp only;rw[Uc,lx,<-nZ f];refine w ?_;refine VE.round (i+1) zO zO ⟨rfl,b7 rfl (by rw[d]),rfl,b7 rfl (by congr 1),trivial⟩ ?_;exact ae.re
 ·
  have e:i=s.au.length:=by have:=dx j;omega
  subst e;refine w ?_;refine VE.b9 rfl rfl ?_;rw[SP,<-wP];exact ae.re
theorem M1(h:s.In)(a:∀q∈boxes x,q∈R)(c:aV W R 1 s.so s.au.length (bytes s.au)):∀k (b:k<13),rF W s R k ((dK x)[k]'(by rw[aN];exact b)).1
 |0,_=>Gn h
 |1,_=>PV h a
 |2,_=>Ek h a
 |3,_=>JY h a
 |4,_=>JX h a
 |5,_=>B2 h a
 |6,_=>Gm h a
 |7,_=>JV h
 |8,_=>B3 h a
 |9,_=>JW h a
 |10,_=>Ej h a
 |11,_=>JZ h
 |12,_=>El h c
end
end Go.Proofs.YtldolcbbmnmjoaaGreat
namespace Go.Proofs.YtldolcbbmnmjoaaGreat
open Go.RowKit Go.Sl
attribute [local irreducible] Own
theorem oF:∀(L:List ab){R:List ab},aP (L++R) R
 |[],_=>.refl
 |_::L,_=>.drop (oF L)
theorem drop_append:∀(R L:List ab),aP (R++L) R
 |[],_=>.nil
 |_::R,L=>.cons .head (drop_append R L)
theorem L8(X:List UInt8)(h:X.length<=100):(Pk.mk 128 X 0).fill (124-X.length) 0=⟨128,iI 124 X,0⟩:=by
 have b:(Pk.mk 128 X 0).room (124-X.length)=⟨128,X,0⟩:=by
  unfold Pk.room;rw[aE];rintro⟨_,a⟩;simp only at a;omega
 have e:((124:Int)-X.length).toNat=124-X.length:=by omega
 unfold Pk.fill;rw[aE zO,b,lam rfl,e];rfl
theorem H3{s:ai}(h:s.yD):s.enc=(0,cE s.body):=lam h
theorem x5{s:ai}(h:¬s.yD):s.enc=(70,[]):=aE h
theorem x6{W:World}{R:List ab}(s:ai)(G:s.fit)(H:aV W R 1 s.so s.au.length (bytes s.au)):
  aq W Tryz.prog 85 [.agg s.cells.toArray] R (β:=Option Addr×Nat) (λ_=>True) (λx=>.tuple #[.slice x.1 s.enc.2.length x.2,i6 s.enc.1]) (λx=>b8 x s.enc.2::R):=by
 refine ze Tryz.func85 Tryz.ntmps85 ?_;refine zj λ_=>?_;refine w ?_;rename_i sb;refine zt (s:=AD s G (H.aR (ae.drop ae.refl))) (h:=?_);intro _ _;refine w ?_;by_cases c:s.yD
 case neg=>
  rw[show s.check=70 from aE c];refine w ?_;refine VE.done (none,0) rfl trivial (by rw[x5 c];rfl) ?_;rw[x5 c];exact ae.trans (ae.re (L:=R)) (λw i=>i.aZ _ _)
 rw[show s.check=0 from lam c,H3 c];have f:=Gg G c;refine zr (s:=Gc 128 (by decide)) (h:=?_);intro p _;refine zt (s:=zN) (h:=?_);rintro⟨a,t⟩-;dsimp only;refine w ?_
 refine VC.loop (α:=Nat) (λk=>k<=13) (λk=>aH p ⟨128,s.eT k,0⟩::Row t 236 (dm a)::Row sb 46 s.cells::(boxes a++R))
  (λk=>[(1,ip sb),(5,ip p),(22,.slice (ik t) 13 13),(23,ii 13),(24,ii k)]) (λk=>13-k) rfl 0 (by decide) ?_ zB ?_
 ·
  rw[DB];intro w i;refine i.perm ?_;exact(List.Perm.cons _ ((List.perm_append_comm (l₁:=boxes a) (l₂:=[aH p ⟨128,[],0⟩,Row sb 46 s.cells]++R)).trans (by simp only[QD,ou];exact List.Perm.cons _ (List.Perm.cons _ List.perm_append_comm)))).trans (List.Perm.swap ..)
 intro k U;refine w ?_;refine zk ?_ ?_<;>intro F
 ·
  have r:k<13:=by have:=cI F;omega
  have d:=M1 (W:=W) (s:=s) (R:=Row t 236 (dm a)::Row sb 46 s.cells::(boxes a++R)) (x:=a) f (λq O=>.tail _ (.tail _ (List.mem_append_left _ O))) (H.aR (ae.drop (ae.drop (λw i=>i.fk (oF _))))) k r;have e:=qw a k r;generalize N:(dK a)[k]'(by rw[aN];exact r)=Q at d e;obtain⟨T,S⟩:=Q;have v:∀u∈[T,S],u.oneCell'=true:=λu P=>iY a u (List.drop_subset _ _ (List.take_subset _ _ (by rw[e];exact P)));dsimp only at d e;obtain⟨g,cap,rfl,C,spec⟩:=d;have z:aV W (aH p ⟨128,s.eT k,0⟩::Row t 236 (dm a)::Row sb 46 s.cells::(boxes a++R)) 2 (ik t) 13 (dm a):=aV.row (iY a) zm rfl;refine w ?_;refine VO.pure rfl rfl (af.gY ah rfl rfl z e rfl) rfl ?_;refine zw ?_;refine ay.aB Kc rfl ?_;intro n8;refine zq ?_;refine ay.gL ah rfl rfl rfl rfl v zh (by simp) ?_;refine zw ?_;refine ay.call rfl rfl C (spec p) ae.re rfl ?_;intro _ _;refine w ?_;refine VE.round (k+1) zO zO ⟨rfl,rfl,rfl,rfl,b7 rfl (by congr 1),trivial⟩ ?_;exact ae.re
 ·
  have D:k=13:=by have:=dx F;omega
  subst D;have I:=zY s;have J:=f.HI;have m:=oG f;have o:=lq f;have n:s.body=iI 124 (s.eT 13):=rfl;generalize s.eT 13=X at*;refine VC.aR (ae.re (L:=aH p ⟨128,X,0⟩::(boxes a++R))) ?_;refine VC.aR (λw i=>i.perm (List.Perm.cons _ List.perm_append_comm)) ?_;refine VC.aR (λw i=>i.fk (aP.cons .head (drop_append _ _))) ?_;refine zr (s:=Tc p ⟨128,X,0⟩) (h:=?_);intro _ _;dsimp only;refine zr (s:=O7 p ⟨128,X,0⟩ (124-(X).length) 0) (h:=?_);intro _ _;rw[L8 X zO,<-n];refine zr (s:=rO p ⟨128,s.body,0⟩ rfl) (h:=?_);intro b _;rw[pQ];dsimp only;generalize s.body=B at*;refine w ?_;have E:aV W (Own 5 1 (.slice (ik b) 128 128) 128 (bytes (iI 128 B))::aH p ⟨128,B,0⟩::R) 1 (ik b) 128 (bytes (iI 128 B)):=aV.own (aQ _) (.head _) (by rw[ff,kM zO]) (by simp);have M:(iI 128 B).length=128:=kM zO;have y:=jf (l:=iI 128 B) (by rw[M];exact E) 124 zO;rw[show(iI 128 B).take 124=B from DL m]at y;have j:=rq (W:=W) (cap:=128) (l:=B) (ao:=ik b) (by rw[m];exact y) zO;rw[m]at j;refine zt (s:=j) (h:=?_);intro _ _;refine w ?_;have K:=(cV B).isLt;refine zr (s:=lJ p ⟨128,B,0⟩ (cV B).toNat zO) (h:=?_);intro _ _;rw[Pk.cA rfl (by simp only;omega)];dsimp only;rw[show B++aJ (cV B).toNat 4=cE B from rfl];refine zr (s:=rO p ⟨128,cE B,0⟩ rfl) (h:=?_);intro A _;rw[pQ,show iI 128 (cE B)=cE B by unfold iI;rw[o];simp];dsimp only;refine w ?_;refine VE.done (ik A,128) rfl trivial (by rw[o];rfl) ?_;rw[show b8 (ik A,128) (cE B)=Own 5 1 (.slice (ik A) 128 128) 128 (bytes (cE B))by unfold b8;rw[o]];exact ae.re
end Go.Proofs.YtldolcbbmnmjoaaGreat
namespace Go.Sl
open Go Go.RowKit
section
variable{P:Program}{ops:Array Oper}{Q:Exit->Act->World->Prop}{S:World->Prop}
def Us(ops:Array Oper)(mv:List Nat)(b:Nat)(d:List (List Nat))(k:Nat)(a:Array Bool):Bool:=
  !(Region.ready .any ops a).isEmpty&&(Region.ready .any ops a).all λi=>d.any λr=>match r with
    |[]=>false
    |j::t=>Nat.beq i j&&(mv.contains j&&(Nat.blt j b&&(Nat.beq t.length k&&rV ops mv b t (a.setIfInBounds j true))))
def preB(ops:Array Oper)(mv:List Nat)(b:Nat)(d:List (List Nat))(k:Nat):List Nat->Array Bool->Bool
  |[],a=>Us ops mv b d k a
  |i::r,a=>(!BK mv b i&&Region.free .any ops a i)&&((Region.ready .any ops a).contains i&&preB ops mv b d k r (a.setIfInBounds i true))
def Bl(ops:Array Oper)(mv:List Nat)(a:Nat)(pre:List Nat)(b:List (List Nat)):Bool:=
  Nat.beq (pre.length+(ops.size-pre.length-1+1)) ops.size&&Region.noSelect ops&&(Nat.ble ops.size a||(Region.sinkB .any ops a&&Region.chainB .any ops a&&Nat.blt a ops.size))&&preB ops mv a b (ops.size-pre.length-1) pre (Array.replicate ops.size false)
def TQ(P:Program)(ops:Array Oper)(Q:Exit->Act->World->Prop)(S:World->Prop)(mv:List Nat)(d:Nat)(b:List (List Nat)):Exit->Act->World->Prop:=
  λ_ a w=>∀r∈b,fo P ops Q S mv d r a w
theorem EA{mv:List Nat}{g:Nat}{C:List (List Nat)}{k:Nat}(B:nj .any ops g)(A:Region.noSelect ops=true):∀(r:List Nat)(b:Array Bool)(a:Act)(w:World),HeadInv .any ops g b->preB ops mv g C k r b=true->S w->
    fo P ops (TQ P ops Q S mv g C) S mv g r a w->pH P .any ops (eF Q) S g (r.length+(k+1)) b a w
  |[],b,a,w,inv,h,x,m=>by
    simp only[preB,Us,mV]at h;rw[List.length_nil,PA];refine⟨λG=>(by rw[G]at h;simp at h),λi D=>?_⟩;have l:=List.all_eq_true.1 h.2 i D;obtain⟨r,u,p⟩:=List.any_eq_true.1 l;cases r with
    |nil=>cases p
    |cons j t=>
      simp only[mV]at p;obtain⟨e,s,z,y,L⟩:=p;have e:i=j:=by simpa using e
      subst e;have y:t.length=k:=by simpa using y
      have d:i<g:=by simpa[Nat.blt_eq]using z
      rcases m _ u with⟨_,m⟩|⟨q,_⟩
      · refine wpOp_mono (λF N h'=>⟨h'.1,?_⟩) m
        rw[<-y]
        exact iy B A t _ F N (inv.set D d) L (h'.1 d) h'.2
      · simp only[BK,s,Bool.true_or]at q;cases q
  |i::r,b,a,w,inv,h,x,m=>by
    simp only[preB,mV]at h;obtain⟨⟨l,p⟩,I,J⟩:=h;have l:BK mv g i=false:=by simpa using l
    have d:i<g:=by
      rcases w9 i g with h'|h'
      · exact h'
      · rw[oW (Nat.ble_eq_true_of_le h')]at l;cases l
    have u:i∈Region.ready .any ops b:=by simpa using I
    rcases m with⟨s,_⟩|⟨_,o,v,E,M,m⟩
    · rw[l]at s;cases s
    · rw[tc,Nat.add_right_comm]
      exact nU B E (Region.noSelect_spec A) (λc a w K=>by cases K.1) d _ b a w inv (Region.free_spec E p) u M x (EA B A r _ _ w (inv.set u d) J x m)
theorem Ct{id:Nat}{mv:List Nat}{b:Nat}{pre:List Nat}{j:List (List Nat)}{a:Act}{w:World}(r:P.follows .mixedOrders=true)(k:Bl ops mv b pre j=true)(o:S w.drew)
  (h:fo P ops (TQ P ops Q S mv b j) S mv b pre a w.drew):(Code.region id ops true).wp P Q a w:=by
 simp only[Bl,mV,Bool.or_eq_true]at k;obtain⟨⟨⟨q,t⟩,u⟩,p⟩:=k;have g:=Nat.eq_of_beq_eq_true q;have i:nj .any ops b:=by
  rcases u with h|⟨⟨d,l⟩,m⟩
  · exact .inl (Nat.le_of_ble_eq_true h)
  · exact .inr ⟨d,l,by simpa[Nat.blt_eq]using m⟩
 have d:=EA (P:=P) (Q:=Q) (S:=S) i t pre _ a w.drew (HeadInv.start b) p o h;rw[g]at d;refine Code.wp_mono ?_ (wp_region_any (Q:=eF Q) r (lL _ _ _ _ d));rintro e a w ⟨rfl,s⟩;exact s
end
section
variable{W:World}{P:Program}{n:Nat}{c:Code}{Q:Exit->Act->World->Prop}{H R:List ab}{f:Fr}
theorem VC.vw(mv:List Nat)(a:Nat)(pre:List Nat)(b:List (List Nat))(R:List ab)(g:dg c=some true)(l:P.follows .mixedOrders=true)(e:Bl (aG c).toArray mv a pre b=true)(j:ae W H R)
  (h:VD W P n c R mv a pre (TQ P (aG c).toArray Q (Holds W R) mv a b) H f):VC W P n c Q H f:=by
 unfold VC;unfold VD at h;cases c<;>simp[dg]at g;subst g;intro t w k i;have d:=h t w.drew k i.drew;simp only[aG,Array.toArray_toList]at d e;exact Ct l e (j _ i.drew) d
theorem VE.vf{mv h i:List Nat}{a:Nat}(b:VD W P n c R mv a h Q H f)(d:VD W P n c R mv a i Q H f):VE W n (TQ P (aG c).toArray Q (Holds W R) mv a [h,i]) .normal H f:=by
 unfold VE;unfold VD at b d;intro t w e g r hr;rcases List.mem_cons.1 hr with rfl|hr
 · exact b t w e g
 ·
  rcases List.mem_cons.1 hr with rfl|hr
  · exact d t w e g
  · cases hr
end
end Go.Sl
namespace Go.Proofs.YtldolcbbmnmjoaaGreat
open Go.RowKit Go.Sl
attribute [local irreducible] Sl.Own
def xf(l:List (List UInt8)):List UInt8:=l.foldl eP dC
theorem Cw(l:List (List UInt8))(x:List UInt8):xf (l++[x])=eP (xf l) x:=by simp[xf]
theorem QP{b:List (List UInt8)}(h:∀x∈b,x.length=128):∀{a:List UInt8},a.length=128->b.foldl eP a=eP a (xf b)/\(b.foldl eP a).length=128:=by
  induction b with
  |nil=>intro a c;exact⟨(eg c).symm,c⟩
  |cons x r f=>
    intro a c;have d:=h x (.head _);have e:∀y∈r,y.length=128:=λy j=>h y (.tail _ j);obtain⟨g,i⟩:=f e (mU c d);refine⟨?_,i⟩;rw[List.foldl_cons,g,gN];unfold xf;rw[List.foldl_cons,k6 dC,eg d,(f e d).1];rfl
theorem nV{l:List (List UInt8)}(h:∀x∈l,x.length=128):(xf l).length=128:=(QP h (by simp)).2
theorem mT{a b:List (List UInt8)}(c:∀x∈a,x.length=128)(d:∀x∈b,x.length=128):xf (a++b)=eP (xf a) (xf b):=by
 rw[<-(QP d (nV c)).1];simp[xf]
theorem Ii{a b:List (List UInt8)}(p:a.Perm b):xf a=xf b:=p.foldl_eq' (λx _ y _ z=>uf z x y) dC
theorem Cx(f:Nat->List UInt8):∀n,ia f n=xf ((List.range n).map f)
 |0=>rfl
 |n+1=>by rw[KQ,jv,List.map_singleton,Cw,<-Cx f n];rfl
theorem D9{m par:Nat}{G:List Nat}(c:par<m)(b:G.Nodup)(a:∀i∈G,i<m/\i≠par):((List.range m).filter (λi=>i==par||G.contains i)).Perm (par::G):=by
 refine(List.perm_ext_iff_of_nodup (List.nodup_range.sublist List.filter_sublist) (List.nodup_cons.2 ⟨λh=>(a _ h).2 rfl,b⟩)).2 λi=>?_;rw[KO,HC,List.mem_cons];simp only[Bool.or_eq_true,beq_iff_eq,List.contains_iff_mem];exact⟨λh=>h.2,λh=>⟨h.elim (λe=>e▸c) λe=>(a i e).1,h⟩⟩
theorem Nd{m par:Nat}{G:List Nat}(e:par<m)(d:G.Nodup)(a:∀i∈G,i<m/\i≠par)(h:G.length+1=m):(List.range m).filter (λi=>!(i==par||G.contains i))=[]:=by
 have b:=(List.filter_append_perm (λi=>i==par||G.contains i) (List.range m)).length_eq;have c:=(D9 e d a).length_eq;rw[c9,KN,c,tc]at b;exact te.1 zO
theorem PZ{m par:Nat}{G rs:List Nat}{f g:Nat->List UInt8}{x:List UInt8}(E:par<m)(A:G.Nodup)(n:∀i∈G,i<m/\i≠par)(B:∀i,i<m->(f i).length=128)(C:∀i∈G,(g i).length=128)(u:ia f m=dC)
  (o:rs=(List.range m).filter (λi=>!(i==par||G.contains i))\/rs=(List.range m).filter (λi=>i==par||G.contains i))(j:x=xf (rs.map f++G.map g)):
  ia (λi=>if i=par then x else if i∈G then g i else f i) m=dC:=by
 obtain⟨CE,hold⟩:∃l,(List.range m).filter (λi=>i==par||G.contains i)=l:=⟨_,rfl⟩;obtain⟨rest,a⟩:∃l,(List.range m).filter (λi=>!(i==par||G.contains i))=l:=⟨_,rfl⟩;have c:(CE++rest).Perm (List.range m):=by rw[<-hold,<-a];exact List.filter_append_perm _ _
 have D:CE.Perm (par::G):=hold▸D9 E A n;have r:∀i∈CE,i<m:=λi b=>HC.1 (c.subset (List.mem_append_left _ b));have d:∀i∈rest,i<m/\i≠par/\i∉G:=λi b=>by
  rw[<-a,KO,HC]at b;simpa using b
 have t:∀{l:List Nat},(∀i∈l,i<m)->∀x∈l.map f,x.length=128:=λh x j=>by obtain⟨i,b,rfl⟩:=fG.1 j;exact B i (h i b)
 have k:∀x∈G.map g,x.length=128:=λx j=>by obtain⟨i,b,rfl⟩:=fG.1 j;exact C i b
 have e:=t λi b=>(d i b).1;have q:=t r;have p:x.length=128:=by
  rw[j];refine nV λy s=>(l0.1 s).elim (λh=>?_) (k y);rcases o with rfl|rfl
  · rw[a]at h;exact e y h
  · rw[hold]at h;exact q y h
 have v:eP (xf (CE.map f)) (xf (rest.map f))=dC:=by
  rw[<-mT q e,<-jv,Ii (c.map f),<-Cx,u]
 have z:ia (λi=>if i=par then x else if i∈G then g i else f i) m=eP (eP x (xf (G.map g))) (xf (rest.map f)):=by
  rw[Cx,<-Ii ((c.symm.trans (D.append_right rest)).symm.map _),jv,BI,lam rfl]
  rw[show G.map (λi=>if i=par then x else if i∈G then g i else f i)=G.map g from Mx λi b=>by rw[aE (n i b).2,lam b],
   show rest.map (λi=>if i=par then x else if i∈G then g i else f i)=rest.map f from Mx λi b=>by rw[aE (d i b).2.1,aE (d i b).2.2]]
  rw[show x::G.map g++rest.map f=[x]++(G.map g++rest.map f)from rfl,mT (by simpa using p) (λy s=>(l0.1 s).elim (k y) (e y)),mT k e,<-gN];congr 2;show eP dC x=x;rw[k6,eg p]
 rw[z,j];have ls:=nV k;rcases o with rfl|rfl
 · rw[a,mT e k,gN (xf (rest.map f)),k7 ls,eg (nV e),k7 (nV e)]
 · rw[hold,mT q k,gN (xf (CE.map f)),k7 ls,eg (nV q),v]
end Go.Proofs.YtldolcbbmnmjoaaGreat
namespace Go.Proofs.YtldolcbbmnmjoaaGreat
open Go.RowKit Go.Sl
attribute [local irreducible] Own
theorem FE{W:World}{R:List ab}{ao g:Option Addr}{ac bc:Nat}{l m:List UInt8}(o:aV W R 1 ao l.length (bytes l))(p:aV W R 1 g m.length (bytes m))(r:l.length<=140737488351232):
  az W Tryz.prog 299 [.slice ao l.length ac,.slice g m.length bc] R (.bool (decide (l=m))) R:=by
 refine ze Tryz.func299 Tryz.ntmps299 ?_;refine zk ?_ ?_<;>intro c
 ·
  have h:¬l.length=m.length:=by have:¬(l.length:Int)=m.length:=(by simpa using c);omega
  refine w ?_;refine VE.ax rfl ?_ ?_
  · congr 1;symm;exact gx (λe=>h (by rw[e]))
  · exact ae.refl
 have h:l.length=m.length:=by have:(l.length:Int)=m.length:=(by simpa using c);omega
 refine w ?_;refine VC.loop (α:=Nat) (λi=>i<=l.length/\l.take i=m.take i) (λ_=>R) (λi=>[(0,.slice ao l.length ac),(1,.slice g m.length bc),(12,ii l.length),(13,ii i)]) (λi=>l.length-i) rfl 0 ⟨c7 _,by simp⟩ ae.refl zB ?_;rintro i ⟨q,j⟩;refine w ?_;refine zk ?_ ?_<;>intro c
 ·
  have f:i<l.length:=by have:=cI c;omega
  have d:i<m.length:=by omega
  obtain⟨a,rfl⟩:∃a,ao=some a:=by cases ao with|none=>have:=o.nil rfl;omega|some a=>exact⟨a,rfl⟩
  obtain⟨b,rfl⟩:∃b,g=some b:=by cases g with|none=>have:=p.nil rfl;omega|some b=>exact⟨b,rfl⟩
  refine w ?_;refine VC.quiet rfl (by kernel_rfl) (by kernel_rfl) ?_;refine w ?_;refine VQ.pure rfl rfl (af.rZ ah rfl rfl o (show(bytes l)[i]?=some (ib (l[i].toNat:Int))by simp[bytes,f];rfl)) rfl ?_;refine w ?_;refine VQ.pure rfl rfl (af.rZ ah rfl rfl p (show(bytes m)[i]?=some (ib (m[i].toNat:Int))by simp[bytes,d];rfl)) rfl ?_;refine w ?_;refine zk ?_ ?_<;>intro c
  ·
   have n:l[i]≠m[i]:=by intro h;rw[h]at c;simp at c
   refine w ?_;refine VE.ax rfl ?_ ?_
   · congr 1;symm;exact gx (λe=>n (by subst e;rfl))
   · exact ae.refl
  ·
   have n:l[i]=m[i]:=by have h:(l[i].toNat:Int)=m[i].toNat:=(by simpa using c);exact UInt8.toNat_inj.1 zO
   refine w ?_;refine VE.round (i+1) ⟨f,by rw[nZ f,nZ d,j,n]⟩ zO ⟨rfl,rfl,rfl,b7 rfl (by congr 1),trivial⟩ ae.refl
 ·
  have k:i=l.length:=by have:=dx c;omega
  subst k;rw[qy (eI _),qy zO]at j;refine w ?_;refine VE.ax rfl ?_ ?_
  · rw[j];simp
  · exact ae.refl
def ai.alike(a b:ai):Bool:=a.rG b&&decide (a.au=b.au/\a.events=b.events/\a.safe=b.safe/\a.lost=b.lost/\a.dc=b.dc)
theorem Ld{W:World}{R:List ab}(a b:ai)(n:a.fit)(j:b.fit)(k:aV W R 1 a.so a.au.length (bytes a.au))(l:aV W R 1 b.so b.au.length (bytes b.au)):
  az W Tryz.prog 262 [.agg a.cells.toArray,.agg b.cells.toArray] R (.bool (a.alike b)) R:=by
 have d:=n.len;have m:∀A B,ae W (A::B::R) R:=λA B=>ae.drop (ae.drop ae.refl);refine ze Tryz.func262 Tryz.ntmps262 ?_;refine zj λ_=>?_;refine w ?_;refine zj λ_=>?_;refine zt (s:=FE (k.aR (m _ _)) (l.aR (m _ _)) d) (h:=?_);intro _ _;refine zt (s:=G6 a b n j) (h:=?_);intro _ _;unfold ai.alike;refine w ?_;cases o:a.rG b
 ·
  refine w ?_;refine VE.ax rfl ?_ ?_
  · rfl
  · exact ae.re
 refine w ?_;refine zg ?_ ?_<;>intro c
 ·
  have e:a.au=b.au:=cI c;refine w ?_;refine zg ?_ ?_<;>intro c
  ·
   have f:a.events=b.events:=by have:=c;simp at this;omega
   refine w ?_;refine zg ?_ ?_<;>intro c
   ·
    have g:a.safe=b.safe:=by have:=c;simp at this;omega
    refine w ?_;refine zg ?_ ?_<;>intro c
    ·
     have i:a.lost=b.lost:=by simpa using c
     refine w ?_;refine VE.ax rfl ?_ ?_
     · congr 1;rw[Bool.eq_iff_iff];simp[e,f,g,i]
     · exact ae.re
    ·
     have i:¬a.lost=b.lost:=by simpa using c
     refine w ?_;refine VE.ax rfl ?_ ?_
     · simp[i]
     · exact ae.re
   ·
    have g:¬a.safe=b.safe:=by have:=c;simp at this;omega
    refine w ?_;refine VE.ax rfl ?_ ?_
    · simp[g]
    · exact ae.re
  ·
   have f:¬a.events=b.events:=by have:=c;simp at this;omega
   refine w ?_;refine VE.ax rfl ?_ ?_
   · simp[f]
   · exact ae.re
 ·
  have e:¬a.au=b.au:=dx c;refine w ?_;refine VE.ax rfl ?_ ?_
  · simp[e]
  · exact ae.re
def cZ(l:List cO)(i:Nat):Bool:=match l[i]? with
  |some b=>b.has&&decide (b.s.yD/\b.s.members=(l.length:Int)-1/\b.s.role=(i:Int))
  |none=>false
theorem sQ{W:World}{R:List ab}{ao:Option Addr}{cap n:Nat}{l:List cO}(i:Nat)(k:i<l.length)(o:l.length<=140737488351232)(p:Row n 191 [.slice ao l.length cap]∈R)(c:E9 W R ao l):
  az W Tryz.prog 258 [ii i,ip n] R (.bool (cZ l i)) R:=by
 obtain⟨a,rfl⟩:∃a,ao=some a:=by cases ao with|none=>have:=c.gz.nil rfl;omega|some a=>exact⟨a,rfl⟩
 have d:=fF k;have m:=c.st _ d;have f:=c.fit _ d;unfold cZ;rw[fL k];dsimp only;refine ze Tryz.func258 Tryz.ntmps258 ?_;refine VO.pure rfl rfl (af.ld ah rfl rfl p rfl) rfl ?_;refine w ?_;refine VO.pure rfl rfl (.gY ah rfl rfl c.gz (dW l i k (λ_ _=>rfl)) rfl) rfl ?_;generalize l[i]=b at*;have e:(b.s.check==0)=decide b.s.yD:=by
  unfold ai.check;split
  · rename_i h;simp[h]
  · rename_i h;simp[h]
 refine zq ?_;refine ay.aB sb_263 rfl ?_;intro q;refine zw ?_;refine ay.gL (vs:=b.cells) ah rfl rfl rfl rfl (iW _) zh (by simp) ?_;refine VO.aR (aP.aR (L:=Row q 263 b.cells::R) (by(repeat exact .refl))) ?_;refine w ?_;cases r:b.has
 ·
  refine w ?_;refine VE.ax rfl ?_ ?_
  · rfl
  · exact ae.drop ae.refl
 refine zt (s:=AD b.s f (m.aR (ae.drop ae.refl))) (h:=?_);intro _ _;refine w ?_;refine zg ?_ ?_<;>intro c
 ·
  have g:b.s.yD:=cI (by rw[<-e];exact c);refine w ?_;refine VO.pure rfl rfl (af.ld ah rfl rfl (.tail _ p) rfl) rfl ?_;refine w ?_;refine zg ?_ ?_<;>intro c
  ·
   have j:b.s.members=(l.length:Int)-1:=by simpa using c
   refine w ?_;refine VE.ax rfl ?_ ?_
   · congr 1;rw[Bool.eq_iff_iff];simp[g,j]
   · exact ae.drop ae.refl
  ·
   have j:¬b.s.members=(l.length:Int)-1:=by simpa using c
   refine w ?_;refine VE.ax rfl ?_ ?_
   · simp[j]
   · exact ae.drop ae.refl
 ·
  have g:¬b.s.yD:=dx (by rw[<-e];exact c);refine w ?_;refine VE.ax rfl ?_ ?_
  · simp[g]
  · exact ae.drop ae.refl
def bj(l:List ai):List Value:=l.flatMap ai.cells
theorem vN(l:List ai):∀u∈bj l,u.oneCell'=true:=by
 intro u a;obtain⟨s,_,h⟩:=Ai.1 a;exact cB s u h
theorem kN(l:List ai):(bj l).length=l.length*12:=cW l λ_ _=>rfl
theorem mO(l:List ai)(i:Nat)(h:i<l.length):((bj l).drop (i*12)).take 12=l[i].cells:=dW l i h λ_ _=>rfl
def SY(p:ai->Bool)(l:List ai)(k:Int):Prop:=(k=-1/\∀s∈l,p s=false)\/∃(i:Nat)(h:i<l.length),k=(i:Int)/\p l[i]=true/\∀s∈l.take i,p s=false
theorem rW{W:World}{R:List ab}{ao:Option Addr}{cap:Nat}{l:List ai}{g:FuncId}{cp:Array Value}(p:ai->Bool)(r:l.length<=1000000)(m:aV W R 12 ao l.length (bj l))(e:∀a w,(callFunc g a).run Tryz.prog w= .ok (.enter g a) w)
  (o:∀s∈l,az W Tryz.prog g (.agg s.cells.toArray::cp.toList) R (.bool (p s)) R):
  aq W Tryz.prog 259 [.slice ao l.length cap,.func (.func g) #[] cp] R (β:=Int) (SY p l) (λk=>ii k) (λ_=>R):=by
 refine ze Tryz.func259 Tryz.ntmps259 ?_;refine VC.loop (α:=Nat) (λi=>i<=l.length/\∀s∈l.take i,p s=false) (λ_=>R) (λi=>[(0,.slice ao l.length cap),(1,.func (.func g) #[] cp),(7,ii l.length),(8,ii i)]) (λi=>l.length-i) rfl 0 ⟨c7 _,by simp⟩ ae.refl zB ?_;rintro i ⟨q,c⟩;refine w ?_;refine zk ?_ ?_<;>intro j
 ·
  have b:i<l.length:=by have:=cI j;omega
  obtain⟨a,rfl⟩:∃a,ao=some a:=by cases ao with|none=>have:=m.nil rfl;omega|some a=>exact⟨a,rfl⟩
  refine w ?_;refine VO.pure rfl rfl (.gY ah rfl rfl m (mO l i b) rfl) rfl ?_;refine zq ?_;refine ay.call rfl rfl e (o l[i] (fF b)) ae.refl rfl ?_;intro _ _;refine w ?_;cases d:p l[i]
  ·
   refine w ?_;refine VE.round (i+1) ⟨b,?_⟩ zO ⟨rfl,rfl,rfl,b7 rfl (by congr 1),trivial⟩ ae.refl;intro s n;rw[nZ b,l0,ju]at n;rcases n with h|h
   · exact c s h
   · rw[h];exact d
  ·
   refine w ?_;exact VE.done (i:Int) rfl (.inr ⟨i,b,rfl,d,c⟩) rfl ae.refl
 ·
  have f:i=l.length:=by have:=dx j;omega
  subst f;rw[qy (eI _)]at c;refine w ?_;exact VE.done (-1) rfl (.inl ⟨rfl,c⟩) rfl ae.refl
theorem uY{W:World}{R:List ab}{ao:Option Addr}{cap:Nat}{l:List ai}{g:FuncId}{cp:Array Value}(p:ai->Bool)(f:l.length<=1000000)(m:aV W R 12 ao l.length (bj l))(b:∀a w,(callFunc g a).run Tryz.prog w= .ok (.enter g a) w)
  (j:∀s∈l,az W Tryz.prog g (.agg s.cells.toArray::cp.toList) R (.bool (p s)) R):
  az W Tryz.prog 182 [.slice ao l.length cap,.func (.func g) #[] cp] R (.bool (l.any p)) R:=by
 (refine aq.enter Tryz.func182 Tryz.ntmps182 rfl rfl ?_);refine zt (s:=rW p f m b j) (h:=?_);intro k e;refine w ?_;refine VE.ax rfl ?_ ?_
 ·
  congr 1;rcases e with⟨rfl,h⟩|⟨i,d,rfl,c,o⟩
  · symm;rw[gx zO,List.any_eq_false];intro s n;simp[h s n]
  · symm;rw[ky zO,List.any_eq_true];exact⟨_,fF d,c⟩
 · exact ae.refl
theorem Fx{W:World}{R:List ab}{a:Addr}{cap b:Nat}{l:List ai}(s:ai)(c:0<l.length)(g:s.fit)(d:l[0].fit)(f:aV W R 12 (some a) l.length (bj l))(e:Row b 267 [.slice (some a) l.length cap]∈R):
  az W Tryz.prog 183 [.agg s.cells.toArray,ip b] R (.bool (!s.rG l[0])) R:=by
 refine ze Tryz.func183 Tryz.ntmps183 ?_;refine zj λ_=>?_;refine w ?_;refine zx [] 4 [0,1,2,3,4,5,6] _ ?_;refine w ?_;refine VD.take rfl rfl rfl (af.ld ah rfl rfl (.tail _ e) rfl) rfl ?_;refine w ?_;refine VD.take rfl rfl rfl (.gY ah rfl rfl (f.aR (ae.drop ae.refl)) (mO l 0 c) rfl) rfl ?_;refine zt (s:=G6 s l[0] g d) (h:=?_);intro _ _;refine w ?_;refine VE.ax rfl ?_ ?_
 · rfl
 · exact ae.drop ae.refl
theorem DV{W:World}{R:List ab}{a:Nat}{e:Nat}(s:ai)(d:s.fit)(c:Row a 43 [i8 e]∈R):
  az W Tryz.prog 261 [.agg s.cells.toArray,ip a] R (.bool (!decide (s.events=e))) R:=by
 refine ze Tryz.func261 Tryz.ntmps261 ?_;refine zj λ_=>?_;refine w ?_;refine VO.pure rfl rfl (af.ld ah rfl rfl (.tail _ c) rfl) rfl ?_;refine w ?_;refine VE.ax rfl ?_ ?_
 ·
  congr 1;by_cases h:s.events=e
  · simp[h]
  ·
   have b:¬(s.events:Int)=(e:Int):=by omega
   simp[h,b]
 · exact ae.drop ae.refl
theorem qD(l:List ai)(i:Nat):(bj l).take (i*12)=bj (l.take i):=by
 have h:=kN (l.take i);by_cases a:i<=l.length
 ·
  conv=>lhs;rw[<-QB i l]
  rw[bj,E5,Tj (by show _<=(bj _).length;rw[h,j1];omega)];rw[qy (by show(bj _).length<=_;rw[h,j1];omega)];rfl
 · rw[qy (by rw[kN];omega),qy zO]
theorem Co(l:List ai)(i:Nat)(s:ai)(h:i<l.length):(bj l).take (i*12)++s.cells++(bj l).drop (i*12+12)=bj (l.set i s):=by
 have a:(bj l).drop (i*12+12)=bj (l.drop (i+1)):=by
  have e:bj l=bj (l.take (i+1))++bj (l.drop (i+1)):=by
   simp only[bj];rw[<-E5,QB]
  rw[e,<-show(bj (l.take (i+1))).length=i*12+12 by rw[kN,j1];omega,List.drop_left]
 rw[qD,a,List.set_eq_take_append_cons_drop,lam h];simp[bj]
theorem Holds.RV{W w:World}{e sz k a cap:Nat}{ao:Option Addr}{ys:List Value}{R:List ab}(c:Holds W (Own e sz (.slice ao a cap) a ys::R) w)(b:k<=a):Holds W (Own e sz (.slice ao k cap) k (ys.take (k*sz))::R) w:=Holds.xD c b
def lY(p:ai->Bool)(l:List ai)(j:Nat):List ai:=(l.take j).filter λs=>!p s
theorem Mt(p:ai->Bool)(l:List ai)(j:Nat):(lY p l j).length<=j:=by
 unfold lY;exact RB (uy _ _) (by rw[j1];omega)
theorem wX(p:ai->Bool)(l:List ai)(j:Nat)(h:j<l.length):lY p l (j+1)=lY p l j++(if p l[j]then[]else[l[j]]):=by
 unfold lY;rw[nZ h,oS];congr 1;cases a:p l[j]<;>simp[a]
theorem yM{W:World}{R:List ab}{ao:Option Addr}{cap:Nat}{l:List ai}{g:FuncId}{cp:Array Value}(p:ai->Bool)(T:l.length<=1000000)(q:∀a w,(callFunc g a).run Tryz.prog w= .ok (.enter g a) w)
  (P:∀s∈l,∀H:List ab,(∀x∈R,x∈H)->az W Tryz.prog g (.agg s.cells.toArray::cp.toList) H (.bool (p s)) H)(O:ao=none->l.length=0)(J:l.length<=cap):
  az W Tryz.prog 260 [.slice ao l.length cap,.func (.func g) #[] cp] (Own 46 12 (.slice ao l.length cap) l.length (bj l)::R)
   (.slice ao (l.filter λs=>!p s).length cap) (Own 46 12 (.slice ao (l.filter λs=>!p s).length cap) (l.filter λs=>!p s).length (bj (l.filter λs=>!p s))::R):=by
 (refine aq.enter Tryz.func260 Tryz.ntmps260 rfl rfl ?_);refine zt (s:=rW p T (aV.own (vN l) (.head _) (kN l) O) q (λs z=>P s z _ λx F=>.tail _ F)) (h:=?_);intro k S;refine w ?_;rcases S with⟨rfl,i⟩|⟨i0,u,rfl,D,i⟩
 ·
  have K:(l.filter λs=>!p s)=l:=List.filter_eq_self.2 λs z=>by simp[i s z]
  refine w ?_;refine VE.ax rfl ?_ ?_
  · rw[K]
  · rw[K];exact ae.refl
 refine w ?_;have c:lY p l (i0+1)=l.take i0:=by
  rw[wX p l i0 u,D,lam rfl,mn];exact List.filter_eq_self.2 λs z=>by simp[i s z]
 have d:(lY p l (i0+1)).length=i0:=by rw[c,j1];omega
 obtain⟨a,rfl⟩:∃a,ao=some a:=by cases ao with|none=>have:=O rfl;omega|some a=>exact⟨a,rfl⟩
 refine VC.loop (α:=List ai×Nat) (λy=>y.2<=l.length/\y.1.length=l.length/\y.1.take (lY p l y.2).length=lY p l y.2/\y.1.drop y.2=l.drop y.2/\(lY p l y.2).length<y.2)
  (λy=>Own 46 12 (.slice (some a) l.length cap) l.length (bj y.1)::R)
  (λy=>[(0,.slice (some a) l.length cap),(1,.func (.func g) #[] cp),(5,ii (lY p l y.2).length),(6,ii y.2)]) (λy=>l.length-y.2) rfl (l,i0+1) ⟨u,rfl,by rw[d,c],rfl,by rw[d];omega⟩ ae.refl ⟨rfl,rfl,b7 rfl (by congr 1;simp[d]),b7 rfl (by congr 1),trivial⟩ ?_
 rintro⟨M,j⟩ ⟨Q,m,n,A,G⟩;dsimp only at Q m n A G⊢;refine w ?_;refine zk ?_ ?_<;>intro I
 ·
  have f:j<l.length:=by have:=cI I;omega
  have B:M[j]'zO=l[j]:=by
   have e:=JB (λx=>x[0]?) A;simpa[f,m]using e
  have E:aV W (Own 46 12 (.slice (some a) l.length cap) l.length (bj M)::R) 12 (some a) l.length (bj M):=aV.own (vN M) (.head _) (by rw[kN,m]) (by simp);refine w ?_;refine VO.pure rfl rfl (.gY ah rfl rfl E (mO M j zO) rfl) rfl ?_;refine zw ?_;refine ay.aB sb_46 rfl ?_;intro X;refine zw ?_;refine ay.gL (vs:=M[j].cells) ah rfl rfl rfl rfl (cB _) zh (by simp) ?_;rw[B];refine VO.aR (aP.aR (L:=Row X 46 l[j].cells::Own 46 12 (.slice (some a) l.length cap) l.length (bj M)::R) (by(repeat exact .refl))) ?_;refine zw ?_;refine ay.call rfl rfl q (P l[j] (fF f) _ λx F=>.tail _ (.tail _ F)) ae.refl rfl ?_;intro _ _;have b:=wX p l j f;have N:=Mt p l j;have o:M.drop (j+1)=l.drop (j+1):=by rw[<-QC,<-QC,A]
  refine w ?_;cases v:p l[j]
  ·
   rw[v]at b;simp only[Bool.false_eq_true,if_false]at b;refine zw ?_;refine ay.P7 (vs:=l[j].cells) ah rfl rfl rfl rfl (cB _) zh (by rw[kN];omega) ?_;rw[Co M _ _ zO];refine w ?_;refine VE.round (M.set (lY p l j).length l[j],j+1) ⟨by simp only;omega,by simp only[Ub];exact m,?_,?_,?_⟩ (by simp only;omega) ⟨rfl,rfl,b7 rfl (by congr 1;rw[b];simp),b7 rfl (by congr 1),trivial⟩ ?_
   ·
    simp only;rw[b,c9,ie,nZ (by rw[Ub];omega),List.take_set_of_le (eI _),n,List.getElem_set_self]
   ·
    simp only;rw[List.drop_set_of_lt zO,o]
   ·
    simp only;rw[b,c9,ie];omega
   · exact ae.re
  ·
   rw[v]at b;simp only[if_true,mn]at b;refine w ?_;refine VE.round (M,j+1) ⟨by simp only;omega,m,by simp only;rw[b];exact n,o,by simp only;rw[b];omega⟩ (by simp only;omega) ⟨rfl,rfl,b7 rfl (by rw[b]),b7 rfl (by congr 1),trivial⟩ ae.re
 ·
  have C:j=l.length:=by have:=dx I;omega
  subst C;have t:lY p l l.length=l.filter λs=>!p s:=by unfold lY;rw[qy (eI _)]
  rw[t]at n G⊢;have r:(l.filter λs=>!p s).length<=l.length:=by omega
  refine zw ?_;refine ay.LJ st_267 rfl zh r ?_;intro ys V;refine w ?_;refine VE.ax rfl ?_ ?_
  · rfl
  ·
   refine ae.trans (λw U=>Holds.RV (k:=(l.filter λs=>!p s).length) U r) ?_;rw[qD,n,DL (by rw[kN])];exact ae.refl
def bO:ai:=⟨0,0,0,0,0,0,0,0,false,false,none,0,[],0⟩
def tt(l:List ai)(s:ai):Bool:=l.any λt=>!s.alike t
def j2(l:List ai):Int×ai:=
  if l.any (λs=>!s.lost)then(153,bO)else if l.any (tt l)then(151,bO)else(0,l.headD bO)
def lU(l:List ai)(e:Nat):List ai:=l.filter λs=>!(!decide (s.events=e))
theorem F5{W:World}{R:List ab}{ao:Option Addr}{cap:Nat}{l:List ai}{e:Nat}(hl:l.length<=1000000)(hf:∀s∈l,s.fit)(V:∀s∈l,aV W R 1 s.so s.au.length (bytes s.au))(U:∃s∈l,s.events=e)(hn:ao=none->l.length=0)(J:l.length<=cap):
  az W Tryz.prog 185 [.slice ao l.length cap,i8 e] (Own 46 12 (.slice ao l.length cap) l.length (bj l)::R)
   (.tuple #[.agg (j2 (lU l e)).2.cells.toArray,i6 (j2 (lU l e)).1]) R:=by
 refine ze Tryz.func185 Tryz.ntmps185 ?_;refine zj λ_=>?_;refine w ?_;rename_i b;refine zq ?_;refine ay.aB sb_46 rfl ?_;intro n;refine w ?_;refine VO.pure rfl rfl (af.pU rfl) rfl ?_;refine zr (s:=yM (R:=Row n 46 bO.cells::Row b 43 [i8 e]::R) (λs=>!decide (s.events=e)) hl (λ_ _=>by simp) (λs g H hH=>DV s (hf s g) (hH _ (.tail _ (.head _)))) hn J) (h:=?_);intro _ _;have hb:∀s∈lU l e,s∈l:=λs g=>(KO.1 g).1;have aa:(lU l e).length<=l.length:=uy _ _;have p:0<(lU l e).length:=by
  obtain⟨s,g,he⟩:=U;exact List.length_pos_of_mem (KO.2 ⟨g,by simp[he]⟩)
 obtain⟨a,rfl⟩:∃a,ao=some a:=by cases ao with|none=>have:=hn rfl;omega|some a=>exact⟨a,rfl⟩
 change VO _ _ _ _ _ _ (Own 46 12 (.slice (some a) (lU l e).length cap) (lU l e).length (bj (lU l e))::Row n 46 bO.cells::Row b 43 [i8 e]::R) ((14,.slice (some a) (lU l e).length cap)::_);generalize lU l e=B at*;refine w ?_;have K:∀s∈B,s.fit:=λs g=>hf s (hb s g);have q:∀s∈B,aV W R 1 s.so s.au.length (bytes s.au):=λs g=>V s (hb s g);have z:∀X:List ab,aV W (X++Own 46 12 (.slice (some a) B.length cap) B.length (bj B)::Row n 46 bO.cells::Row b 43 [i8 e]::R) 12 (some a) B.length (bj B):=λX=>aV.own (vN B) (List.mem_append_right _ (.head _)) (kN B) (by simp)
 refine VC.loop (α:=Nat×Bool) (λy=>y.1<=B.length/\(∀s∈B.take y.1,s.lost=true)/\y.2=(B.take y.1).any (tt B))
  (λ_=>Own 46 12 (.slice (some a) B.length cap) B.length (bj B)::Row n 46 bO.cells::Row b 43 [i8 e]::R)
  (λy=>[(4,ip n),(5,i6 0),(6,.slice (some a) B.length cap),(7,.bool y.2),(15,.slice (some a) B.length cap),(16,ii B.length),(17,ii y.1)]) (λy=>B.length-y.1) rfl (0,false) ⟨c7 _,by simp,by simp⟩ ae.refl zB ?_
 rintro⟨i,sp⟩ ⟨hi,c,d⟩;dsimp only at hi c d⊢;refine w ?_;refine zk ?_ ?_<;>intro I
 ·
  have m:i<B.length:=by have:=cI I;omega
  have Q:=nZ m;have T:=K _ (fF m);have O:=q _ (fF m);refine w ?_;refine VO.pure rfl rfl (.gY ah rfl rfl (z []) (mO B i m) rfl) rfl ?_;refine zq ?_;refine ay.aB sb_46 rfl ?_;intro n9;refine zw ?_;refine ay.gL (vs:=B[i].cells) ah rfl rfl rfl rfl (cB _) zh (by simp) ?_;refine VO.aR (aP.aR (L:=Row n9 46 B[i].cells::Own 46 12 (.slice (some a) B.length cap) B.length (bj B)::Row n 46 bO.cells::Row b 43 [i8 e]::R) (by(repeat exact .refl))) ?_;refine w ?_;cases M:B[i].lost
  ·
   refine w ?_;apply VO.pure rfl rfl;apply af.build sb_46 rfl;simp[aC,bR,Value.cells];rfl;rfl;refine zl bO.cells (cB _) ?_;refine VE.results2 (.inl rfl) () rfl (aL.agg (vs:=bO.cells) ah rfl rfl zm rfl rfl) (.tmp rfl) trivial ?_ (by exact ae.re);rw[show j2 B=(153,bO)from lam (List.any_eq_true.2 ⟨_,fF m,by simp[M]⟩)]
  ·
   refine w ?_
   refine VC.loop (α:=Nat) (λk=>k<=B.length/\∀t∈B.take k,B[i].alike t=true)
    (λ_=>Row n9 46 B[i].cells::Own 46 12 (.slice (some a) B.length cap) B.length (bj B)::Row n 46 bO.cells::Row b 43 [i8 e]::R)
    (λk=>[(4,ip n),(5,i6 0),(6,.slice (some a) B.length cap),(7,.bool sp),(9,ip n9),(15,.slice (some a) B.length cap),(16,ii B.length),(17,ii i),(25,.slice (some a) B.length cap),(26,ii B.length),(27,ii k)]) (λk=>B.length-k) rfl 0 ⟨c7 _,by simp⟩ ae.refl zB ?_
   rintro k ⟨hk,u⟩;have f:∀s∈B.take (i+1),s.lost=true:=by
    intro s g;rw[Q,l0,ju]at g;rcases g with h|h
    · exact c s h
    · rw[h];exact M
   have o:(B.take (i+1)).any (tt B)=(sp||tt B B[i]):=by rw[Q,List.any_append,<-d];simp
   refine w ?_;refine zk ?_ ?_<;>intro I
   ·
    have j:k<B.length:=by have:=cI I;omega
    refine w ?_;refine VO.pure rfl rfl (.gY ah rfl rfl (z [_]) (mO B k j) rfl) rfl ?_;refine zq ?_;refine ay.aB sb_46 rfl ?_;intro n11;refine zw ?_;refine ay.gL (vs:=B[k].cells) ah rfl rfl rfl rfl (cB _) zh (by simp) ?_;refine VO.aR (aP.aR (L:=Row n11 46 B[k].cells::Row n9 46 B[i].cells::Own 46 12 (.slice (some a) B.length cap) B.length (bj B)::Row n 46 bO.cells::Row b 43 [i8 e]::R) (by(repeat exact .refl))) ?_;refine w ?_;have Y:∀A C D E F:ab,ae W (A::C::D::E::F::R) R:=λA C D E F=>ae.drop (ae.drop (ae.drop (ae.drop (ae.drop ae.refl))));refine zt (s:=Ld B[i] B[k] T (K _ (fF j)) (O.aR (Y _ _ _ _ _)) ((q _ (fF j)).aR (Y _ _ _ _ _))) (h:=?_);intro _ _;refine w ?_;cases G:B[i].alike B[k]
    ·
     refine w ?_;refine VE.round (i+1,true) ⟨by simp only;omega,f,?_⟩ (by simp only;omega) ⟨rfl,rfl,rfl,rfl,rfl,rfl,b7 rfl (by congr 1),trivial⟩ ae.re;simp only;rw[o,show tt B B[i]=true from List.any_eq_true.2 ⟨_,fF j,by simp[G]⟩,Bool.or_true]
    ·
     refine w ?_;refine VE.round (k+1) ⟨by omega,?_⟩ zO ⟨rfl,rfl,rfl,rfl,rfl,rfl,rfl,rfl,rfl,rfl,b7 rfl (by congr 1),trivial⟩ ae.re;intro t S;rw[nZ j,l0,ju]at S;rcases S with h|h
     · exact u t h
     · rw[h];exact G
   ·
    have v:k=B.length:=by have:=dx I;omega
    subst v;rw[qy (eI _)]at u;refine w ?_;refine VE.round (i+1,sp) ⟨by simp only;omega,f,?_⟩ (by simp only;omega) ⟨rfl,rfl,rfl,rfl,rfl,rfl,b7 rfl (by congr 1),trivial⟩ ae.re;simp only;rw[o,show tt B B[i]=false from List.any_eq_false.2 λt S=>by simp[u t S],Bool.or_false]
 ·
  have v:i=B.length:=by have:=dx I;omega
  subst v;rw[qy (eI _)]at c d;have N:¬B.any (λs=>!s.lost)=true:=by
   intro h;obtain⟨s,g,Z⟩:=List.any_eq_true.1 h;rw[c s g]at Z;cases Z
  cases P:sp
  ·
   rw[P]at d;refine w ?_;refine VO.pure rfl rfl (.gY ah rfl rfl (z []) (mO B 0 p) rfl) rfl ?_;refine zl (B[0].cells) (cB _) ?_;refine VE.results2 (.inl rfl) () rfl (aL.agg (vs:=B[0].cells) ah rfl rfl zm rfl rfl) (.tmp rfl) trivial ?_ (by exact ae.re);rw[show j2 B=(0,B.headD bO)from(aE N).trans (aE (by rw[<-d];simp))];rw[show B.headD bO=B[0]by cases B with|nil=>simp at p|cons x r=>rfl]
  ·
   rw[P]at d;refine w ?_;apply VO.pure rfl rfl;apply af.build sb_46 rfl;simp[aC,bR,Value.cells];rfl;rfl;refine zl bO.cells (cB _) ?_;refine VE.results2 (.inl rfl) () rfl (aL.agg (vs:=bO.cells) ah rfl rfl zm rfl rfl) (.tmp rfl) trivial ?_ (by exact ae.re);rw[show j2 B=(151,bO)from(aE N).trans (lam d.symm)]
theorem wu{W:World}{R:List ab}{ao:Option Addr}{n cap:Nat}{xs:List Value}(d:aV W R 1 ao n xs)(g:n<=1099511627776):
    aq W Tryz.prog 25 [.slice ao n cap] R (β:=Option Addr×Nat) (λ_=>True) (λx=>.slice x.1 n x.2) (λx=>Own 96 1 (.slice x.1 n x.2) n xs::R):=by
  refine ze Tryz.func25 Tryz.ntmps25 ?_;cases ao with
  |none=>
    have e:=d.nil rfl;subst e;have f:xs=[]:=List.eq_nil_of_length_eq_zero (by simpa using d.len);subst f;refine VC.cU rfl rfl (rfl) ?_;refine w ?_;exact VE.done (none,0) rfl trivial rfl λw b=>b.aZ _ _
  |some a=>
    refine VC.aK rfl rfl (rfl) ?_;refine w ?_;refine zq ?_;refine ay.bP st_44 rfl rfl (by(simp;done)) (by decide) rfl ?_;intro nb;refine VO.aR (H':=Own 96 1 (.slice (ik nb) 0 0) 0 []::R) (λw b=>Holds.fS rfl (eI _) (by decide) rfl b) ?_;refine w ?_;refine VO.step rfl rfl ?_;refine ay.append st_44 rfl rfl .head (λw b=>(d.Kh (cap:=cap) b.tail).src st_44.tZ) (by simp only[maxLen];omega) zO rfl ?_;intro c cap';simp only[PA,ou];refine w ?_;exact VE.done (c,cap') rfl trivial rfl ae.refl
theorem C7{W:World}{R:List ab}{ao:Option Addr}{n cap:Nat}:
  aq W Tryz.prog 181 [.slice ao n cap] R (β:=Nat) (λ_=>True) (λx=>.func (.func 258) #[] #[ip x]) (λx=>Row x 191 [.slice ao n cap]::R):=by
 refine ze Tryz.func181 Tryz.ntmps181 ?_;refine zj λ_=>?_;refine w ?_;rename_i b;refine VO.pure rfl rfl (af.pU rfl) rfl ?_;refine w ?_;exact VE.done b rfl trivial rfl ae.refl
def Oa(l:List cO)(m:Nat):Nat:=match l[m]? with
  |some b=>b.s.events
  |none=>0
def kk(st:List UInt8)(m:Nat):UInt8:=st.getD m 0
def ql(l:List cO)(safe:Nat)(st:List UInt8)(m:Nat):Bool:=kk st m != 2&&(cZ l m&&decide (safe<=Oa l m))
def mF(l:List cO)(safe:Nat)(st:List UInt8)(m:Nat):Bool:=kk st m != 2&&!ql l safe st m
def kr(l:List cO)(safe:Nat)(st:List UInt8):Nat->Nat
  |0=>0
  |m+1=>kr l safe st m+(if(kk st m != 1||!ql l safe st m)=true then 1 else 0)
def uM(l:List cO)(safe:Nat)(st:List UInt8):Nat->Bool
  |0=>false
  |m+1=>uM l safe st m||mF l safe st m
def qF(l:List cO)(safe:Nat)(st:List UInt8):Nat->Bool
  |0=>false
  |m+1=>qF l safe st m||(mF l safe st m&&kk st m==3)
def iH(l:List cO)(safe:Nat)(st:List UInt8)(i:Nat):List UInt8:=st.mapIdx λm x=>if m<i/\mF l safe st m=true then 2 else x
@[simp] theorem r8(l:List cO)(safe:Nat)(st:List UInt8)(i:Nat):(iH l safe st i).length=st.length:=by simp[iH]
theorem Gb(l:List cO)(safe:Nat)(st:List UInt8):iH l safe st 0=st:=by
 apply E6 (by simp);intro j a b;simp[iH]
theorem JL(l:List cO)(safe:Nat)(st:List UInt8)(i:Nat)(h:i<st.length):(iH l safe st i)[i]'(by simpa using h)=kk st i:=by simp[iH,kk,h]
theorem xy(l:List cO)(safe:Nat)(st:List UInt8)(i:Nat)(h:mF l safe st i=false):iH l safe st (i+1)=iH l safe st i:=by
 apply E6 (by simp);intro j a b;simp only[iH,List.getElem_mapIdx];by_cases e:j=i
 · subst e;simp[h]
 ·
  have:j<i+1↔j<i:=by omega
  simp only[this]
theorem Ga(l:List cO)(safe:Nat)(st:List UInt8)(i:Nat)(h:mF l safe st i=true):iH l safe st (i+1)=(iH l safe st i).set i 2:=by
 apply E6 (by simp);intro j a b;simp only[iH,List.getElem_mapIdx,List.getElem_set];by_cases e:i=j
 · subst e;simp[h]
 ·
  rw[aE e];have:j<i+1↔j<i:=by omega
  simp only[this]
end Go.Proofs.YtldolcbbmnmjoaaGreat
namespace Go.Proofs.YtldolcbbmnmjoaaGreat
open Go.RowKit Go.Sl
attribute [local irreducible] Own
theorem T5:∀v:Fin 256,((IntKind.u8.wrap ((BitVec.ofInt IntKind.u8.bits (v.val:Int)&&& BitVec.ofInt IntKind.u8.bits 1).toNat:Int)) != 0)=decide (v.val%2=1)/\((IntKind.u8.wrap ((BitVec.ofInt IntKind.u8.bits (v.val:Int)&&& BitVec.ofInt IntKind.u8.bits 2).toNat:Int)) != 0)=decide (v.val/2%2=1):=by decide+kernel
def lI(k:Rk):Nat->Rk
  |0=>k
  |i+1=>(lI k i).number 1
def kF(k:Rk)(n:Nat):List UInt8:=(List.range n).map λi=>UInt8.ofNat (dE ((lI k i).jk 1))
theorem nR(k:Rk)(n:Nat):(kF k n).length=n:=by simp[kF]
theorem GJ(k:Rk)(n:Nat):kF k (n+1)=kF k n++[UInt8.ofNat (dE ((lI k n).jk 1))]:=by simp[kF,KQ]
def ft(l:List UInt8)(k:Nat):Rk:=if k<=11 then⟨l,lC k,0,0⟩else(Rk.mk l 42 0 0).nF 2
def l6(l:List UInt8):Nat:=min (aO l 33 1) 16
def ai.parse(l:List UInt8):ai where
  id:=aO l 8 8
  events:=aO l 16 8
  safe:=aO l 24 8
  role:=aO l 32 1
  members:=aO l 33 1
  chunk:=aO l 34 1
  bG:=aO l 36 2
  ring:=aO l 38 2
  lazy:=decide (aO l 35 1%2=1)
  lost:=decide (aO l 35 1/2%2=1)
  so:=none
  sc:=0
  au:=kF (ft l 12) (l6 l)
  dc:=aO l 40 2
def ai.upto(p:ai)(k:Nat):ai where
  id:=if 1<k then p.id else 0
  events:=if 2<k then p.events else 0
  safe:=if 3<k then p.safe else 0
  role:=if 4<k then p.role else 0
  members:=if 5<k then p.members else 0
  chunk:=if 6<k then p.chunk else 0
  bG:=if 8<k then p.bG else 0
  ring:=if 9<k then p.ring else 0
  lazy:=if 7<k then p.lazy else false
  lost:=if 7<k then p.lost else false
  so:=none
  sc:=0
  au:=[]
  dc:=if 10<k then p.dc else 0
def ai.hold(p:ai)(x:Option Addr×Nat)(st:List UInt8):ai:={p with so:=x.1,sc:=x.2,au:=st}
theorem Mp(p:ai)(x y:Option Addr×Nat)(X:List UInt8)(c:UInt8):(p.hold y (X++[c])).cells=(p.hold x X).cells.set 10 (.slice y.1 (X.length+1) y.2):=by
 simp[ai.hold]
abbrev ug(x:Option Addr×Nat)(l:List UInt8):ab:=Own 96 1 (.slice x.1 l.length x.2) l.length (bytes l)
def sK(W:World)(l:List UInt8)(R:List ab)(k:Nat)(v:Value):Prop:=
  ∃(g:FuncId)(cap:Array Value),v= .func (.func g) #[] cap/\(∀a w,(callFunc g a).run Tryz.prog w= .ok (.enter g a) w)/\
    ∀r sb,az W Tryz.prog g ([ip r,ip sb]++cap.toList) (aF r (ft l k)::Row sb 46 ((ai.parse l).upto k).cells::R) (.tuple #[])
      (aF r (ft l (k+1))::Row sb 46 ((ai.parse l).upto (k+1)).cells::R)
theorem fu{l:List UInt8}(e:l.length=128){k w:Nat}(d:k<=10)(c:lC k+w=lC (k+1)):(ft l k).number w=ft l (k+1)/\dE ((ft l k).jk w)=aO l (lC k) w:=by
 have b:=HS (k+1) zO;unfold ft;rw[lam zO,lam zO];have a:=Rk.eo (k:=⟨l,lC k,0,0⟩) (n:=w) rfl (by simp only;omega);rw[a.2.2,a.1];exact⟨by simp only[c],rfl⟩
section
variable{W:World}{l:List UInt8}{R:List ab}{x:Nat->Nat×Nat×Nat}
theorem Pc(b:l.length=128)(a:∀q∈boxes x,q∈R):sK W l R 1 ((dK x)[1]'(by rw[aN];decide)).2:=by
 refine⟨_,_,rfl,λ_ _=>by simp,λr sb=>?_⟩;have q:=wM (W:=W) (R:=R) (r:=r) (sb:=sb) (k:=ft l 1) (cs:=((ai.parse l).upto 1).cells) (a (Row (x 0).2.1 _ _) (by simp[boxes])) (a (Row (x 0).2.2 _ _) (by simp[boxes])) Qr (by simp);rw[(fu b (k:=1) (w:=8) (by decide) rfl).1,(fu b (k:=1) (w:=8) (by decide) rfl).2]at q;exact q
theorem Dw(b:l.length=128)(a:∀q∈boxes x,q∈R):sK W l R 2 ((dK x)[2]'(by rw[aN];decide)).2:=by
 refine⟨_,_,rfl,λ_ _=>by simp,λr sb=>?_⟩;have q:=wM (W:=W) (R:=R) (r:=r) (sb:=sb) (k:=ft l 2) (cs:=((ai.parse l).upto 2).cells) (a (Row (x 1).2.1 _ _) (by simp[boxes])) (a (Row (x 1).2.2 _ _) (by simp[boxes])) y9 (by simp);rw[(fu b (k:=2) (w:=8) (by decide) rfl).1,(fu b (k:=2) (w:=8) (by decide) rfl).2]at q;exact q
theorem Jm(b:l.length=128)(a:∀q∈boxes x,q∈R):sK W l R 3 ((dK x)[3]'(by rw[aN];decide)).2:=by
 refine⟨_,_,rfl,λ_ _=>by simp,λr sb=>?_⟩;have q:=wM (W:=W) (R:=R) (r:=r) (sb:=sb) (k:=ft l 3) (cs:=((ai.parse l).upto 3).cells) (a (Row (x 2).2.1 _ _) (by simp[boxes])) (a (Row (x 2).2.2 _ _) (by simp[boxes])) Ha (by simp);rw[(fu b (k:=3) (w:=8) (by decide) rfl).1,(fu b (k:=3) (w:=8) (by decide) rfl).2]at q;exact q
theorem Jl(b:l.length=128)(a:∀q∈boxes x,q∈R):sK W l R 4 ((dK x)[4]'(by rw[aN];decide)).2:=by
 refine⟨_,_,rfl,λ_ _=>by simp,λr sb=>?_⟩;have q:=Bs (W:=W) (R:=R) (r:=r) (sb:=sb) (k:=ft l 4) (cs:=((ai.parse l).upto 4).cells) (a (Row (x 3).2.1 _ _) (by simp[boxes])) (a (Row (x 3).2.2 _ _) (by simp[boxes])) G9 (by simp);rw[(fu b (k:=4) (w:=1) (by decide) rfl).1,(fu b (k:=4) (w:=1) (by decide) rfl).2]at q;exact q
theorem Bt(b:l.length=128)(a:∀q∈boxes x,q∈R):sK W l R 5 ((dK x)[5]'(by rw[aN];decide)).2:=by
 refine⟨_,_,rfl,λ_ _=>by simp,λr sb=>?_⟩;have q:=Bs (W:=W) (R:=R) (r:=r) (sb:=sb) (k:=ft l 5) (cs:=((ai.parse l).upto 5).cells) (a (Row (x 4).2.1 _ _) (by simp[boxes])) (a (Row (x 4).2.2 _ _) (by simp[boxes])) v7 (by simp);rw[(fu b (k:=5) (w:=1) (by decide) rfl).1,(fu b (k:=5) (w:=1) (by decide) rfl).2]at q;exact q
theorem FO(b:l.length=128)(a:∀q∈boxes x,q∈R):sK W l R 6 ((dK x)[6]'(by rw[aN];decide)).2:=by
 refine⟨_,_,rfl,λ_ _=>by simp,λr sb=>?_⟩;have q:=Bs (W:=W) (R:=R) (r:=r) (sb:=sb) (k:=ft l 6) (cs:=((ai.parse l).upto 6).cells) (a (Row (x 5).2.1 _ _) (by simp[boxes])) (a (Row (x 5).2.2 _ _) (by simp[boxes])) CP (by simp);rw[(fu b (k:=6) (w:=1) (by decide) rfl).1,(fu b (k:=6) (w:=1) (by decide) rfl).2]at q;exact q
theorem Bu(b:l.length=128)(a:∀q∈boxes x,q∈R):sK W l R 8 ((dK x)[8]'(by rw[aN];decide)).2:=by
 refine⟨_,_,rfl,λ_ _=>by simp,λr sb=>?_⟩;have q:=wL (W:=W) (R:=R) (r:=r) (sb:=sb) (k:=ft l 8) (cs:=((ai.parse l).upto 8).cells) (a (Row (x 6).2.1 _ _) (by simp[boxes])) (a (Row (x 6).2.2 _ _) (by simp[boxes])) v8 (by simp);rw[(fu b (k:=8) (w:=2) (by decide) rfl).1,(fu b (k:=8) (w:=2) (by decide) rfl).2]at q;exact q
theorem Jk(b:l.length=128)(a:∀q∈boxes x,q∈R):sK W l R 9 ((dK x)[9]'(by rw[aN];decide)).2:=by
 refine⟨_,_,rfl,λ_ _=>by simp,λr sb=>?_⟩;have q:=wL (W:=W) (R:=R) (r:=r) (sb:=sb) (k:=ft l 9) (cs:=((ai.parse l).upto 9).cells) (a (Row (x 7).2.1 _ _) (by simp[boxes])) (a (Row (x 7).2.2 _ _) (by simp[boxes])) G8 (by simp);rw[(fu b (k:=9) (w:=2) (by decide) rfl).1,(fu b (k:=9) (w:=2) (by decide) rfl).2]at q;exact q
theorem Dv(b:l.length=128)(a:∀q∈boxes x,q∈R):sK W l R 10 ((dK x)[10]'(by rw[aN];decide)).2:=by
 refine⟨_,_,rfl,λ_ _=>by simp,λr sb=>?_⟩;have q:=wL (W:=W) (R:=R) (r:=r) (sb:=sb) (k:=ft l 10) (cs:=((ai.parse l).upto 10).cells) (a (Row (x 8).2.1 _ _) (by simp[boxes])) (a (Row (x 8).2.2 _ _) (by simp[boxes])) y8 (by simp);rw[(fu b (k:=10) (w:=2) (by decide) rfl).1,(fu b (k:=10) (w:=2) (by decide) rfl).2]at q;exact q
theorem FP(a:l.length=128):sK W l R 0 ((dK x)[0]'(by rw[aN];decide)).2:=by
 refine⟨_,_,rfl,λ_ _=>by simp,λr sb=>?_⟩;refine aq.enter Tryz.func209 Tryz.ntmps209 rfl rfl ?_;refine zr (s:=tk) (h:=?_);intro b _;refine zr (s:=H2 r (ft l 0) 8) (h:=?_);rintro⟨c,rc⟩-;rw[show(ft l 0).raw 8=ft l 1 by unfold Rk.raw;rw[aE (by decide)];exact(fu a (k:=0) (w:=8) (by decide) rfl).1];refine w ?_;refine VE.b9 rfl rfl ?_;show ae W _ (aF r (ft l 1)::Row sb 46 ((ai.parse l).upto 0).cells::R);exact ae.re
theorem Jj(c:l.length=128):sK W l R 7 ((dK x)[7]'(by rw[aN];decide)).2:=by
 refine⟨_,_,rfl,λ_ _=>by simp,λr sb=>?_⟩;have b:aO l 35 1<256:=gh l 35 1;have a:=T5 ⟨aO l 35 1,b⟩;dsimp only at a;refine aq.enter Tryz.func225 Tryz.ntmps225 rfl rfl ?_;refine zr (s:=M5 r (ft l 7)) (h:=?_);intro _ _;rw[(fu c (k:=7) (w:=1) (by decide) rfl).1,(fu c (k:=7) (w:=1) (by decide) rfl).2,show lC 7=35 from rfl];refine w ?_;refine VE.b9 rfl rfl ?_;rw[a.1,a.2];exact ae.refl
theorem Jn(a:l.length=128):sK W l R 11 ((dK x)[11]'(by rw[aN];decide)).2:=by
 refine⟨_,_,rfl,λ_ _=>by simp,λr sb=>?_⟩;refine aq.enter Tryz.func233 Tryz.ntmps233 rfl rfl ?_;refine zr (s:=Ev r (ft l 11) 2) (h:=?_);intro _ _;refine w ?_;refine VE.b9 rfl rfl ?_;exact ae.refl
theorem Mh(a:l.length=128)(b:∀q∈boxes x,q∈R):∀k (c:k<12),sK W l R k ((dK x)[k]'(by rw[aN];omega)).2
 |0,_=>FP a
 |1,_=>Pc a b
 |2,_=>Dw a b
 |3,_=>Jm a b
 |4,_=>Jl a b
 |5,_=>Bt a b
 |6,_=>FO a b
 |7,_=>Jj a
 |8,_=>Bu a b
 |9,_=>Jk a b
 |10,_=>Dv a b
 |11,_=>Jn a
theorem Dx(q:l.length=128)(r sb:Nat):
  aq W Tryz.prog 236 [ip r,ip sb] (aF r (ft l 12)::Row sb 46 ((ai.parse l).upto 12).cells::R) (β:=Option Addr×Nat) (λ_=>True) (λ_=>.tuple #[])
   (λy=>ug y (ai.parse l).au::Row sb 46 ((ai.parse l).hold y (ai.parse l).au).cells::R):=by
 have k:aO l 33 1<256:=gh l 33 1;have t:l6 l<=16:=Nat.min_le_right _ _;refine ze Tryz.func236 Tryz.ntmps236 ?_;refine VC.re 9 (ii (l6 l:Nat)) rfl (by show Value.int .i64 (min ((aO l 33 1:Nat):Int) 16)=_;unfold l6;congr 1;omega) ?_
 refine VC.loop (α:=Nat×Option Addr×Nat) (λy=>y.1<=l6 l) (λy=>ug y.2 (kF (ft l 12) y.1)::aF r (lI (ft l 12) y.1)::Row sb 46 ((ai.parse l).hold y.2 (kF (ft l 12) y.1)).cells::R)
  (λy=>[(0,ip r),(1,ip sb),(9,ii (l6 l:Nat)),(10,ii y.1)]) (λy=>l6 l-y.1) rfl (0,none,0) (c7 _) (λw o=>o.aZ _ _) zB ?_
 rintro⟨i,c,a⟩ j;dsimp only at j⊢;refine w ?_;refine zk ?_ ?_<;>intro g
 ·
  have f:i<l6 l:=by have:=cI g;omega
  have p:=sZ (lI (ft l 12) i) 1;have n:=nR (ft l 12) i;refine w ?_;refine zx [6,7,8] 9 [0,1,2,3,4,5,6,7,8,9,10,11] (Row sb 46 ((ai.parse l).hold (c,a) (kF (ft l 12) i)).cells::R) ?_;refine zr (s:=M5 r (lI (ft l 12) i)) (h:=?_);intro _ _;rw[show(lI (ft l 12) i).number 1=lI (ft l 12) (i+1)from rfl];refine w ?_;refine VD.re 18 (gv (UInt8.ofNat (dE ((lI (ft l 12) i).jk 1)))) rfl (by unfold gv;rw[UInt8.toNat_ofNat',nE zO]) ?_;refine zq ?_;refine ay.bP st_44 rfl rfl (by(simp;done)) (by decide) rfl ?_;intro nb;refine w ?_;refine zq ?_;refine ay.cg st_44 rfl rfl zh zm rfl (by(simp;done)) ?_ ?_ rfl ?_
  · simp only[maxLen];omega
  · omega
  intro d b;refine w ?_;refine VE.round (i+1,d,b) f (by simp only;omega) ⟨rfl,rfl,rfl,b7 rfl (by congr 1),trivial⟩ ?_;dsimp only;have m:=GJ (ft l 12) i;generalize kF (ft l 12) i=X at*;generalize kF (ft l 12) (i+1)=Y at*;subst m;unfold ug;rw[dQ,c9,ie];rw[<-Mp _ (c,a) (d,b)];exact ae.re
 ·
  have e:i=l6 l:=by have:=dx g;omega
  subst e;refine w ?_;refine VE.qv (c,a) rfl trivial rfl ?_;show ae W _ (ug (c,a) (kF (ft l 12) (l6 l))::Row sb 46 ((ai.parse l).hold (c,a) (kF (ft l 12) (l6 l))).cells::R);exact ae.re
end
end Go.Proofs.YtldolcbbmnmjoaaGreat
namespace Go.Proofs.YtldolcbbmnmjoaaGreat
open Go.RowKit Go.Sl
attribute [local irreducible] Own
def dk:ai:=⟨0,0,0,0,0,0,0,0,false,false,none,0,[],0⟩
instance decEnc (l:List UInt8)(s:ai):Decidable (s.enc=(0,l)):=inferInstance
def jg(l:List UInt8):Int×ai:=
  if l.length≠128 then(4,dk)else if l.take 8≠ly then(70,dk)else if aO l 124 4≠(cV (l.take 124)).toNat then(71,dk)else
  if(ai.parse l).enc=(0,l)then(0,ai.parse l)else(70,dk)
theorem DD(s:ai)(x:Option Addr×Nat):(s.hold x s.au).enc=s.enc:=by
 have h:(s.hold x s.au).yD↔s.yD:=Iff.rfl;unfold ai.enc;by_cases a:s.yD
 · rw[lam a,lam (h.2 a)];rfl
 · rw[aE a,aE (λq=>a (h.1 q))]
theorem Au(l:List UInt8)(x:Option Addr×Nat)(d:(ai.parse l).au.length<=x.2):((ai.parse l).hold x (ai.parse l).au).fit:=by
 have h:=gh l;have m:(ai.parse l).au.length<=16:=by
  show(kF _ _).length<=16;rw[nR];exact Nat.min_le_right _ _
 have a:=h 8 8;have b:=h 16 8;have c:=h 24 8;have e:=h 32 1;have f:=h 33 1;have g:=h 34 1;have i:=h 36 2;have j:=h 38 2;have k:=h 40 2;refine⟨a,b,c,?_,?_,?_,?_,?_,?_,by show(ai.parse l).au.length<=_;omega,d⟩<;>(simp only[ai.hold,ai.parse];omega)
theorem Bx{W:World}{R:List ab}{ao b:Option Addr}{cap cap':Nat}{a m:List UInt8}(f:aV W R 1 ao a.length (bytes a))(i:aV W R 1 b m.length (bytes m))(c:m.length<=a.length)(d:a.length<=cap):
  az W Tryz.prog 254 [.slice ao a.length cap,.slice b m.length cap'] R (.bool (decide (a.take m.length=m))) R:=by
 have g:=jf f m.length c;have e:(a.take m.length).length=m.length:=by rw[j1];omega
 refine ze Tryz.func254 Tryz.ntmps254 ?_;refine VO.gT rfl rfl rfl (by simpa using c) ?_;refine w ?_;have q:=rR (W:=W) (R:=R) (cap:=cap) (cap':=cap') (by rw[e];exact g) i;rw[e]at q;refine zt (s:=q) (h:=?_);intro _ _;refine w ?_;refine VE.ax rfl ?_ ?_
 · rfl
 · exact ae.refl
abbrev sn(l:List UInt8)(R:List ab)(x:Option Addr×Nat):List ab:=ug x (jg l).2.au::R
theorem Gz{W:World}{R:List ab}{ao:Option Addr}{cap:Nat}{l:List UInt8}(O:aV W R 1 ao l.length (bytes l))(F:l.length<=cap):
  aq W Tryz.prog 180 [.slice ao l.length cap] R (β:=Option Addr×Nat) (λ_=>True) (λx=>.tuple #[.agg ((jg l).2.hold x (jg l).2.au).cells.toArray,i6 (jg l).1]) (sn l R):=by
 refine ze Tryz.func180 Tryz.ntmps180 ?_;refine zq ?_;refine ay.aB sb_46 rfl ?_;intro i;refine w ?_;refine zk ?_ ?_<;>intro D
 ·
  have J:l.length≠128:=by have:=D;simp at this;omega
  have e:jg l=(4,dk):=lam J;refine w ?_;apply VO.pure rfl rfl;apply af.build sb_46 (pv:=[]) rfl;rfl;rfl;refine zq ?_;refine ay.gL ah rfl rfl rfl rfl (cB dk) zh (by simp) ?_;refine w ?_;refine VE.results2 (.inl rfl) (none,0) rfl (aL.agg (vs:=dk.cells) ah rfl rfl zm rfl rfl) (.tmp rfl) trivial (by rw[e];rfl) ?_;unfold sn;rw[e];exact ae.trans (ae.re (L:=R)) (λw f=>f.aZ _ _)
 have o:l.length=128:=by have:=D;simp at this;omega
 obtain⟨a,rfl⟩:∃a,ao=some a:=by cases ao with|none=>have:=O.nil rfl;omega|some a=>exact⟨a,rfl⟩
 refine zr (s:=tk) (h:=?_);intro mb _;refine w ?_;have ag:aV W (Fb mb 5 (bytes ly)::Row i 46 dk.cells::R) 1 (some a) l.length (bytes l):=O.aR (ae.drop (ae.drop ae.refl));refine zt (s:=Bx (m:=ly) ag (aV.RK (aQ _) (.head _) rfl) (by rw[o];decide) F) (h:=?_);intro _ _;rw[show ly.length=8 from rfl];refine w ?_;refine zk ?_ ?_<;>intro D
 ·
  have J:l.take 8≠ly:=by simpa using D
  have e:jg l=(70,dk):=by unfold jg;rw[aE zO,lam J]
  refine w ?_;apply VO.pure rfl rfl;apply af.build sb_46 (pv:=[]) rfl;rfl;rfl;refine zq ?_;refine ay.gL ah rfl rfl rfl rfl (cB dk) zh (by simp) ?_;refine w ?_;refine VE.results2 (.inl rfl) (none,0) rfl (aL.agg (vs:=dk.cells) ah rfl rfl zm rfl rfl) (.tmp rfl) trivial (by rw[e];rfl) ?_;unfold sn;rw[e];exact ae.trans (ae.re (L:=R)) (λw f=>f.aZ _ _)
 have A:l.take 8=ly:=by simpa using D
 have hp:=xN O 124 128 zO zO F;rw[show 128-124=4 from rfl]at hp;have av:=gh l 124 4;have C:(l.take 124).length=124:=by rw[j1];omega
 refine VC.aR (ae.re (L:=Row i 46 dk.cells::R)) ?_;refine w ?_;have hg:=Rk.eo (k:=⟨(l.drop 124).take 4,0,0,0⟩) (n:=4) rfl (by simp;omega);have U:∀q,az W Tryz.prog 154 [.slice (some a) 124 cap] (aF q ⟨(l.drop 124).take 4,4,0,0⟩::Row i 46 dk.cells::R) (.int .u32 ((cV (l.take 124)).toNat:Int)) (aF q ⟨(l.drop 124).take 4,4,0,0⟩::Row i 46 dk.cells::R):=by
  intro q;have:=rq (cap:=cap) (l:=l.take 124) (W:=W) (R:=aF q ⟨(l.drop 124).take 4,4,0,0⟩::Row i 46 dk.cells::R) (ao:=some a) (by rw[C];exact jf (O.aR (ae.drop (ae.drop ae.refl))) 124 zO) zO;rwa [C]at this
 refine zx [2,3] 6 [0,1,4,5,2,3,6,7] (Row i 46 dk.cells::R) ?_;refine w ?_;refine VD.re 20 (.slice (jO (some a) cap 124 1) 4 (cap-124)) rfl (by rw[o]) ?_;refine zr (s:=sk (R:=Row i 46 dk.cells::R) (hp.aR (ae.drop ae.refl)) zO) (h:=?_);intro q _;refine zr (s:=nK q ⟨(l.drop 124).take 4,0,0,0⟩) (h:=?_);intro _ _;rw[hg.1,hg.2.2];dsimp only;rw[show dE (List.take 4 (List.drop 0 (List.take 4 (List.drop 124 l))))=aO l 124 4 by unfold aO;rw[KP,List.take_take];rfl,PA];refine zt (s:=U q) (h:=?_);intro _ _;refine w ?_;refine zk ?_ ?_<;>intro D
 ·
  have J:aO l 124 4≠(cV (l.take 124)).toNat:=by have:=D;simp at this;omega
  have e:jg l=(71,dk):=by unfold jg;rw[aE zO,aE (λh=>h A),lam J]
  refine w ?_;apply VO.pure rfl rfl;apply af.build sb_46 (pv:=[]) rfl;rfl;rfl;refine zq ?_;refine ay.gL ah rfl rfl rfl rfl (cB dk) zh (by simp) ?_;refine w ?_;refine VE.results2 (.inl rfl) (none,0) rfl (aL.agg (vs:=dk.cells) ah rfl rfl zm rfl rfl) (.tmp rfl) trivial (by rw[e];rfl) ?_;unfold sn;rw[e];exact ae.trans (ae.re (L:=R)) (λw f=>f.aZ _ _)
 have G:aO l 124 4=(cV (l.take 124)).toNat:=by have:=D;simp at this;omega
 have M:(ai.parse l).enc=(0,l)->jg l=(0,ai.parse l):=by
  intro h;unfold jg;rw[aE zO,aE (λh=>h A),aE (λh=>h G),lam h]
 have K:(ai.parse l).enc≠(0,l)->jg l=(70,dk):=by
  intro h;unfold jg;rw[aE zO,aE (λh=>h A),aE (λh=>h G),aE h]
 refine VC.aR (ae.re (L:=Row i 46 dk.cells::R)) ?_;refine zw ?_;refine ay.aB sb_46 rfl ?_;intro B;refine w ?_;refine VO.aR (ae.re (L:=Row B 46 dk.cells::Row i 46 dk.cells::R)) ?_;refine zt (s:=sk (O.aR (ae.drop (ae.drop ae.refl))) zO) (h:=?_);intro r _;refine zt (s:=zN) (h:=?_);rintro⟨c,I⟩-;dsimp only;refine w ?_
 refine VC.loop (α:=Nat×Option Addr×Nat) (λy=>y.1<=13) (λy=>if y.1=13 then ug y.2 (ai.parse l).au::Row B 46 ((ai.parse l).hold y.2 (ai.parse l).au).cells::Row i 46 dk.cells::R
   else aF r (ft l y.1)::Row B 46 ((ai.parse l).upto y.1).cells::Row I 236 (dm c)::Row i 46 dk.cells::(boxes c++R))
  (λy=>[(0,.slice (some a) l.length cap),(2,ip i),(4,ip B),(5,ip r),(30,.slice (ik I) 13 13),(31,ii 13),(32,ii y.1)]) (λy=>13-y.1) rfl (0,none,0) (by decide) ?_ zB ?_
 ·
  dsimp only;rw[aE (by decide)];refine ae.trans (H':=Row I 236 (dm c)::(aF r ⟨l,0,0,0⟩::Row B 46 dk.cells::Row i 46 dk.cells::(boxes c++R))) (λw f=>f.perm (List.Perm.cons _ ?_)) ?_
  · exact(List.perm_append_comm (l₁:=boxes c) (l₂:=[aF r ⟨l,0,0,0⟩,Row B 46 dk.cells,Row i 46 dk.cells]++R)).trans (by simp only[QD,ou];exact List.Perm.cons _ (List.Perm.cons _ (List.Perm.cons _ List.perm_append_comm)))
  ·
   show ae W _ (aF r ⟨l,0,0,0⟩::Row B 46 dk.cells::Row I 236 (dm c)::Row i 46 dk.cells::(boxes c++R));exact ae.re
 rintro⟨k,x⟩ hk;dsimp only at hk⊢;by_cases P:k=13
 ·
  subst P;rw[lam rfl];refine w ?_;refine VO.bH (p:=x.1=none->(ai.parse l).au.length=0) (λw f=>f.bn (.head _)) ?_;intro hn;refine VO.bH (p:=(ai.parse l).au.length<=x.2) (λw f=>f.jd (.head _)) ?_;intro aa;have Q:=Au l x aa;refine zt (s:=x6 _ Q (aV.own (aQ _) (.head _) (by simp[ai.hold]) (by simpa[ai.hold]using hn))) (h:=?_);rw[DD];rintro⟨X,ec⟩-;generalize hE:(ai.parse l).enc=E at*;obtain⟨e1,V⟩:=E;dsimp only;refine VO.bH (p:=X=none->V.length=0) (λw f=>f.bn (.head _)) ?_;intro S;refine w ?_;by_cases j:(e1,V)=(0,l)
  ·
   cases j;have b:=M rfl;refine zt (s:=rR (BR (x:=(X,ec)) S zm) (O.aR (ae.drop (ae.drop (ae.drop (ae.drop ae.refl)))))) (h:=?_);intro _ _;rw[ky (rfl:l=l)];refine zl (((ai.parse l).hold x (ai.parse l).au).cells) (cB _) ?_;refine VE.results2 (.inl rfl) x rfl (aL.agg (vs:=((ai.parse l).hold x (ai.parse l).au).cells) ah rfl rfl zm rfl rfl) (.tmp rfl) trivial (by rw[b]) ?_;unfold sn;rw[b];exact ae.re
  ·
   have b:=K j;refine zg ?_ ?_<;>intro J
   ·
    refine w ?_;apply VO.pure rfl rfl;apply af.build sb_46 (pv:=[]) rfl;rfl;rfl;refine zq ?_;refine ay.gL ah rfl rfl rfl rfl (cB dk) zh (by simp) ?_;refine w ?_;refine VE.results2 (.inl rfl) (none,0) rfl (aL.agg (vs:=dk.cells) ah rfl rfl zm rfl rfl) (.tmp rfl) trivial (by rw[b];rfl) ?_;unfold sn;rw[b];exact ae.trans (ae.re (L:=R)) (λw f=>f.aZ _ _)
   ·
    have ad:e1=0:=by simpa using J
    have T:V≠l:=λh=>j (by rw[ad,h]);refine zt (s:=rR (BR (x:=(X,ec)) S zm) (O.aR (ae.drop (ae.drop (ae.drop (ae.drop ae.refl)))))) (h:=?_);intro _ _;rw[gx T];refine w ?_;apply VO.pure rfl rfl;apply af.build sb_46 (pv:=[]) rfl;rfl;rfl;refine zq ?_;refine ay.gL ah rfl rfl rfl rfl (cB dk) zh (by simp) ?_;refine w ?_;refine VE.results2 (.inl rfl) (none,0) rfl (aL.agg (vs:=dk.cells) ah rfl rfl zm rfl rfl) (.tmp rfl) trivial (by rw[b];rfl) ?_;unfold sn;rw[b];exact ae.trans (ae.re (L:=R)) (λw f=>f.aZ _ _)
 ·
  have d:k<13:=by omega
  rw[aE P];refine w ?_;refine VC.cU rfl rfl (ky zO) ?_;have v:=qw c k d;have t:∀u∈[((dK c)[k]'(by rw[aN];exact d)).1,((dK c)[k]'(by rw[aN];exact d)).2],u.oneCell'=true:=λu hu=>iY c u (List.drop_subset _ _ (List.take_subset _ _ (by rw[v];exact hu)));have H:aV W (aF r (ft l k)::Row B 46 ((ai.parse l).upto k).cells::Row I 236 (dm c)::Row i 46 dk.cells::(boxes c++R)) 2 (ik I) 13 (dm c):=aV.row (iY c) zm rfl;by_cases Y:k=12
  ·
   refine w ?_;refine VO.pure rfl rfl (af.gY ah rfl rfl H v rfl) rfl ?_;refine zw ?_;refine ay.aB Kc rfl ?_;intro n7;refine zq ?_;refine ay.gL ah rfl rfl rfl rfl t zh (by simp) ?_;subst Y;refine zr (s:=Dx o r B) (h:=?_);intro y _;refine w ?_;refine VE.round (13,y) (eI _) (by show 13-13<13-12;omega) zB ?_;dsimp only;rw[lam rfl];refine ae.trans (ae.re (L:=ug y (ai.parse l).au::Row B 46 ((ai.parse l).hold y (ai.parse l).au).cells::Row i 46 dk.cells::(boxes c++R))) (λw f=>f.fk (aP.cons .head (aP.cons .head (aP.cons .head (oF _)))))
  ·
   have N:k<12:=by omega
   have z:=Mh (W:=W) (R:=Row I 236 (dm c)::Row i 46 dk.cells::(boxes c++R)) (x:=c) o (λq hq=>.tail _ (.tail _ (List.mem_append_left _ hq))) k N;generalize ba:(dK c)[k]'(by rw[aN];exact d)=pq at z v t;obtain⟨vp,vg⟩:=pq;dsimp only at z v t;obtain⟨g,an,rfl,Z,spec⟩:=z;refine w ?_;refine VO.pure rfl rfl (af.gY ah rfl rfl H v rfl) rfl ?_;refine zw ?_;refine ay.aB Kc rfl ?_;intro n7;refine zq ?_;refine ay.gL ah rfl rfl rfl rfl t zh (by simp) ?_;refine zw ?_;refine ay.call rfl rfl Z (spec r B) ae.re rfl ?_;intro _ _;refine w ?_;refine VE.round (k+1,x) zO (by simp only;omega) ⟨rfl,rfl,rfl,rfl,rfl,rfl,b7 rfl (by congr 1),trivial⟩ ?_;dsimp only;rw[aE zO];exact ae.re
def dq(s:ai)(c:Option Addr)(n b:Nat)(cur:Int)(a jr:Bool):List Value:=[i8 s.id,i8 s.events,i8 s.safe,ii s.role,ii s.members,ii s.chunk,ii s.bG,ii s.ring,.bool s.lazy,.bool s.lost,.slice c n b,ii cur,.bool a,.bool jr]
def Br(v:Nat)(s:ai)(a:Addr)(b:Nat)(jr:Bool)(l:List cO)(st:List UInt8)(i:Nat)(R:List ab):List ab:=
  Row v 195 (dq s (some a) st.length b (if qF l s.safe st i=true then 0 else s.dc) (uM l s.safe st i) jr)::Own 96 1 (.slice (some a) st.length b) st.length (bytes (iH l s.safe st i))::R
theorem wk(l:List UInt8)(i:Nat)(c:UInt8):(bytes l).set i (ib (c.toNat:Int))=bytes (l.set i c):=by simp[bytes,List.map_set];rfl
theorem BL(x:UInt8)(k:Nat)(a:k<256):((x.toNat:Int) != (k:Int))=(x != UInt8.ofNat k):=by
 rw[Bool.eq_iff_iff];simp only[bne_iff_ne,ne_eq];constructor
 · intro h e;apply h;subst e;simp[nE a]
 · intro h e;apply h;apply UInt8.toNat_inj.1;simp[nE a];omega
theorem Hr(x:UInt8)(k:Nat)(a:k<256):((x.toNat:Int)==(k:Int))=(x==UInt8.ofNat k):=by
 have h:=BL x k a;simp only[bne]at h;exact Bool.not_inj h
theorem I9{W:World}{R:List ab}{a:Addr}{ao:Option Addr}{cap j v p:Nat}{l:List cO}(s:ai)(jr:Bool)(st:List UInt8)(C:l.length<=1000000)(H:st.length+1=l.length)(G:Row p 191 [.slice ao l.length cap]∈R)(y:E9 W R ao l):
  az W Tryz.prog 186 [ip v,.slice ao l.length cap,.func (.func 258) #[] #[ip p]]
   (Row v 195 (dq s (some a) st.length j s.dc false jr)::Own 96 1 (.slice (some a) st.length j) st.length (bytes st)::R)
   (.int .i64 (kr l s.safe st st.length)) (Br v s a j jr l st st.length R):=by
 obtain⟨B,rfl⟩:∃a,ao=some a:=by cases ao with|none=>have:=y.gz.nil rfl;omega|some a=>exact⟨a,rfl⟩
 refine aq.enter Tryz.func186 Tryz.ntmps186 rfl rfl ?_;unfold dq;refine w ?_
 refine VC.loop (α:=Nat) (λi=>i<=st.length) (λi=>Br v s a j jr l st i R)
  (λi=>[(0,ip v),(1,.slice (some B) l.length cap),(2,.func (.func 258) #[] #[ip p]),(7,.int .i64 (kr l s.safe st i)),(15,.slice (some a) st.length j),(16,.int .i64 st.length),(17,.int .i64 i)]) (λi=>st.length-i) rfl 0 (c7 _) ?_ zB ?_
 · unfold Br;rw[Gb];exact ae.refl
 intro i F;unfold Br dq;refine w ?_;refine zk ?_ ?_<;>intro z
 ·
  have n:i<st.length:=by have:=cI z;omega
  have d:i<l.length:=by omega
  have t:∀X:List ab,aV W (X++Own 96 1 (.slice (some a) st.length j) st.length (bytes (iH l s.safe st i))::R) 1 (some a) st.length (bytes (iH l s.safe st i)):=λX=>aV.own (aQ _) (List.mem_append_right _ (.head _)) (by simp) (by simp);refine w ?_;refine VO.pure rfl rfl (af.rZ ah rfl rfl (t [_]) (show(bytes (iH l s.safe st i))[i]?=some (.int .u8 ((kk st i).toNat:Int))by rw[<-JL l s.safe st i n];simp[bytes,n];rfl)) rfl ?_;refine w ?_;refine VC.qx [(0,ip v),(1,.slice (some B) l.length cap),(2,.func (.func 258) #[] #[ip p]),(7,.int .i64 (kr l s.safe st i)),(8,.int .i64 i),(9,.int .u8 ((kk st i).toNat:Int)),(10,.bool (ql l s.safe st i)),(15,.slice (some a) st.length j),(16,.int .i64 st.length),(17,.int .i64 i)] ?_ ?_
  ·
   intro D o;refine zx [5] 19 [0,1,2,3,4,5,6,7,8,9,10,11,12,13,14,15,16,17,18,19,20,21] _ ?_;refine w ?_;refine VD.re 24 (.bool (kk st i != 2)) rfl (JB Value.bool (BL _ 2 (by decide))) ?_;cases q:kk st i != 2
   ·
    refine w ?_;exact o.to () trivial ⟨rfl,rfl,rfl,rfl,rfl,rfl,b7 rfl (by simp[ql,q]),rfl,rfl,rfl,trivial⟩ ae.re
   refine zt (s:=sQ i d zO (.tail _ (.tail _ G)) (y.aR (ae.drop (ae.drop ae.refl)))) (h:=?_);intro _ _;cases r:cZ l i
   ·
    refine w ?_;exact o.to () trivial ⟨rfl,rfl,rfl,rfl,rfl,rfl,b7 rfl (by simp[ql,r]),rfl,rfl,rfl,trivial⟩ ae.re
   refine w ?_;refine VD.take rfl rfl rfl (af.fH ah rfl rfl (y.gz.aR (ae.drop (ae.drop ae.refl))) (Hc l i 2 d (by decide))) rfl ?_;refine w ?_;refine o.to () trivial ⟨rfl,rfl,rfl,rfl,rfl,rfl,b7 rfl (by simp[ql,q,r,Oa,d]),rfl,rfl,rfl,trivial⟩ ae.re
  have f:kr l s.safe st (i+1)=kr l s.safe st i+(if(kk st i != 1||!ql l s.safe st i)=true then 1 else 0):=rfl;have c:uM l s.safe st (i+1)=(uM l s.safe st i||mF l s.safe st i):=rfl;have b:qF l s.safe st (i+1)=(qF l s.safe st i||(mF l s.safe st i&&kk st i==3)):=rfl;have e:mF l s.safe st i=(kk st i != 2&&!ql l s.safe st i):=rfl;have E:kr l s.safe st i<=i:=by
   clear f c b e z t n d F;induction i with
   |zero=>exact eI _
   |succ k I=>rw[kr];split<;>omega
  refine VC.seq rfl ?_;refine VC.qx [(0,ip v),(1,.slice (some B) l.length cap),(2,.func (.func 258) #[] #[ip p]),(7,.int .i64 (kr l s.safe st (i+1))),(8,.int .i64 i),(9,.int .u8 ((kk st i).toNat:Int)),(10,.bool (ql l s.safe st i)),(15,.slice (some a) st.length j),(16,.int .i64 st.length),(17,.int .i64 i)] ?_ ?_
  ·
   intro D o;refine w ?_;refine VO.re 45 (.bool (kk st i != 1)) rfl (JB Value.bool (BL _ 1 (by decide))) ?_;cases x:kk st i != 1
   ·
    refine w ?_;cases m:ql l s.safe st i
    ·
     refine w ?_;exact o.to () trivial ⟨rfl,rfl,rfl,b7 rfl (by simp[f,x,m]),rfl,rfl,b7 rfl (by rw[m]),rfl,rfl,rfl,trivial⟩ ae.re
    ·
     refine w ?_;exact o.to () trivial ⟨rfl,rfl,rfl,b7 rfl (by simp[f,x,m]),rfl,rfl,b7 rfl (by rw[m]),rfl,rfl,rfl,trivial⟩ ae.re
   ·
    refine w ?_;exact o.to () trivial ⟨rfl,rfl,rfl,b7 rfl (by simp[f,x]),rfl,rfl,rfl,rfl,rfl,rfl,trivial⟩ ae.re
  cases m:ql l s.safe st i
  ·
   rw[m]at e;refine w ?_;refine VC.re 55 (.bool (kk st i==2)) rfl (JB Value.bool (Hr _ 2 (by decide))) ?_;cases q:kk st i==2
   ·
    have g:mF l s.safe st i=true:=by rw[e,bne,q];rfl
    rw[g]at c b;rw[Bool.or_true]at c;have u:=Ga l s.safe st i g;refine w ?_;refine VC.re 57 (.bool (kk st i==3)) rfl (JB Value.bool (Hr _ 3 (by decide))) ?_;cases r:kk st i==3
    ·
     rw[r]at b;rw[Bool.and_false,Bool.or_false]at b;refine zw ?_;refine ay.EJ ah rfl rfl rfl rfl (.tail .head) (by simp;omega) ?_;rw[show(.int .u8 2:Value)= .int .u8 ((2:UInt8).toNat:Int)from rfl,wk,<-u];refine w ?_;refine VE.round (i+1) zO zO ⟨rfl,rfl,rfl,rfl,rfl,rfl,b7 rfl (by congr 1),trivial⟩ ?_;(try unfold Br dq);rw[c,b];exact ae.re
    ·
     rw[r]at b;rw[Bool.and_true,Bool.or_true]at b;refine zw ?_;refine ay.EJ ah rfl rfl rfl rfl (.tail .head) (by simp;omega) ?_;rw[show(.int .u8 2:Value)= .int .u8 ((2:UInt8).toNat:Int)from rfl,wk,<-u];refine w ?_;refine VE.round (i+1) zO zO ⟨rfl,rfl,rfl,rfl,rfl,rfl,b7 rfl (by congr 1),trivial⟩ ?_;(try unfold Br dq);rw[c,b];exact ae.re
   ·
    have g:mF l s.safe st i=false:=by rw[e,bne,q];rfl
    rw[g]at c b;rw[Bool.or_false]at c;rw[Bool.false_and,Bool.or_false]at b;refine w ?_;refine VE.round (i+1) zO zO ⟨rfl,rfl,rfl,rfl,rfl,rfl,b7 rfl (by congr 1),trivial⟩ ?_;(try unfold Br dq);rw[c,b,xy l s.safe st i g];exact ae.re
  ·
   have g:mF l s.safe st i=false:=by rw[e,m];simp
   rw[g]at c b;rw[Bool.or_false]at c;rw[Bool.false_and,Bool.or_false]at b;refine w ?_;refine VE.round (i+1) zO zO ⟨rfl,rfl,rfl,rfl,rfl,rfl,b7 rfl (by congr 1),trivial⟩ ?_;(try unfold Br dq);rw[c,b,xy l s.safe st i g];exact ae.re
 ·
  have A:i=st.length:=by have:=dx z;omega
  subst A;refine w ?_;refine VE.ax rfl ?_ ?_
  · rfl
  · exact ae.refl
def iL(l:List cO)(i:Nat):ai:=match l[i]? with
  |some b=>b.s
  |none=>bO
theorem iM(l:List cO)(i:Nat)(h:i<l.length):iL l i=l[i].s:=by simp[iL,h]
def bY(l:List cO):Nat->List ai
  |0=>[]
  |i+1=>bY l i++(if cZ l i=true then[iL l i]else[])
def topN(l:List cO):Nat->Nat
  |0=>0
  |i+1=>if cZ l i=true then max (topN l i) (Oa l i)else topN l i
theorem mR(l:List cO):∀i s,s∈bY l i->∃j,j<i/\cZ l j=true/\iL l j=s
  |0,s,h=>by cases h
  |i+1,s,h=>by
    rcases l0.1 h with h|h
    · obtain⟨j,a,b,c⟩:=mR l i s h
      exact⟨j,by omega,b,c⟩
    · by_cases d:cZ l i=true
      · rw[lam d,ju]at h
        exact⟨i,by omega,d,h.symm⟩
      · rw[aE d]at h;cases h
theorem AK(l:List cO):∀i,(bY l i).length<=i
 |0=>eI _
 |i+1=>by have:=AK l i;rw[bY,c9];split<;>simp<;>omega
theorem sR(l:List cO)(i:Nat)(h:cZ l i=true):i<l.length:=by
 rcases w9 i l.length with h'|h'
 · exact h'
 · unfold cZ at h;rw[Ry h']at h;cases h
theorem wB(l:List cO)(i:Nat)(a:i<l.length):cZ l i=true↔l[i].has=true/\l[i].s.yD/\l[i].s.members=(l.length:Int)-1/\l[i].s.role=(i:Int):=by
 unfold cZ;rw[fL a];simp
theorem yK(l:List cO)(i:Nat)(h:cZ l i=true):(iL l i).au.length+1=l.length:=by
 have a:=sR l i h;rw[iM l i a];obtain⟨-,b,c,-⟩:=(wB l i a).1 h;have:=b.1.2.2.2.2;omega
theorem top_att(l:List cO):∀i,bY l i≠[]->∃s∈bY l i,s.events=topN l i
  |0,h=>lcs rfl h
  |i+1,h=>by
    rw[bY,topN]at*;by_cases a:cZ l i=true
    · have d:=sR l i a
      have g:Oa l i=(iL l i).events:=by simp[Oa,iL,d]
      rw[lam a]at*
      rw[lam a]
      by_cases m:topN l i<=Oa l i
      · exact⟨iL l i,by simp,by omega⟩
      · have c:bY l i≠[]:=by
          intro e;have:topN l i=0:=by
            clear m h a g d;induction i with
            |zero=>rfl
            |succ k o=>
              rw[bY]at e;have b:=List.append_eq_nil_iff.1 e;rw[topN];by_cases f:cZ l k=true
              · rw[lam f]at b;exact lcs b.2 (by simp)
              · rw[aE f];exact o b.1
          omega
        obtain⟨s,n,j⟩:=top_att l i c
        exact⟨s,List.mem_append_left _ n,by omega⟩
    · rw[aE a]at*
      rw[aE a]
      rw[mn]at*
      exact top_att l i h
structure Io where
  s:ai
  st:List UInt8
  cur:Int
  ch:Bool
  jr:Bool
def Io.cells(v:Io)(x:Option Addr×Nat):List Value:=dq v.s x.1 v.st.length x.2 v.cur v.ch v.jr
def oY:Io:=⟨bO,[],0,false,false⟩
def cx(l:List cO):Int×ai:=
  if cZ l (l.length-1)=true then(0,iL l (l.length-1))else j2 (lU (bY l l.length) (topN l l.length))
def rS(l:List cO)(s:ai):Io:=
  ⟨{s with role:=0,lost:=s.lost&&!cZ l (l.length-1),events:=topN l l.length},iH l s.safe s.au s.au.length,if qF l s.safe s.au s.au.length=true then 0 else s.dc,uM l s.safe s.au s.au.length,cZ l (l.length-1)⟩
def fP(l:List cO):Int×Io:=
  if l.length<4\/17<l.length then(1,oY)
  else if bY l l.length=[]then(150,oY)
  else if(bY l l.length).any (λs=>!s.rG ((bY l l.length).headD bO))=true then(151,oY)
  else if(cx l).1≠0 then((cx l).1,oY)
  else if 1<kr l (cx l).2.safe (cx l).2.au (cx l).2.au.length then(152,oY)
  else(0,rS l (cx l).2)
theorem Bw(l:List cO)(a:(cx l).1=0)(d:bY l l.length≠[]):∃i,cZ l i=true/\(cx l).2=iL l i:=by
 unfold cx at*;by_cases h:cZ l (l.length-1)=true
 · rw[lam h];exact⟨_,h,rfl⟩
 ·
  rw[aE h]at*;unfold j2 at*;split
  · rename_i b;rw[lam b]at a;cases a
  ·
   rename_i b;rw[aE b]at a;split
   · rename_i f;rw[lam f]at a;cases a
   ·
    obtain⟨s,p,n⟩:=top_att l l.length d;have m:lU (bY l l.length) (topN l l.length)≠[]:=List.ne_nil_of_mem (KO.2 ⟨p,by simp[n]⟩);obtain⟨x,r,e⟩:=List.exists_cons_of_ne_nil m;have c:x∈lU (bY l l.length) (topN l l.length):=by rw[e];exact .head _
    have o:x∈bY l l.length:=(KO.1 c).1;obtain⟨j,-,g,k⟩:=mR l _ _ o;exact⟨j,g,by simp only[e,List.headD_cons];exact k.symm⟩
def zeroV:List Value:=dq bO none 0 0 0 false false
theorem fW(s:ai)(d:Option Addr)(n c:Nat)(cur:Int)(b jr:Bool):∀u∈dq s d n c cur b jr,u.oneCell'=true:=by
 intro u a;simp only[dq,List.mem_cons,TW,or_false]at a;rcases a with h|h|h|h|h|h|h|h|h|h|h|h|h|h<;>subst h<;>rfl
abbrev T6(a:Nat):Value:= .func (.func 258) #[] #[ip a]
theorem Hd(l:List cO)(i:Nat)(h:i<l.length):((eJ l).drop (i*13+1)).take 12=l[i].s.cells:=by
 have b:((eJ l).drop (i*13)).take 13=l[i].cells:=dW l i h (λ_ _=>rfl);have a:=JB (List.drop 1) b;rw[List.drop_take,QC]at a;exact a
def TN(s:ai)(lb:Bool):ai:={s with role:=0,lost:=lb}
def yu(s:ai)(lb:Bool)(e:Nat):ai:={s with role:=0,lost:=lb,events:=e}
theorem lj(cs:List Value):[Value.agg cs.toArray].flatMap (·.cells.toList)=cs:=by simp[Value.cells]
theorem IS{W:World}{R:List ab}{ao:Option Addr}{cap:Nat}{l:List cO}(ch:l.length<=1000000)(o:E9 W R ao l):
  aq W Tryz.prog 125 [.slice ao l.length cap] R (β:=Option Addr×Nat) (λ_=>True) (λx=>.tuple #[.agg ((fP l).2.cells x).toArray,i6 (fP l).1])
   (λx=>Own 96 1 (.slice x.1 (fP l).2.st.length x.2) (fP l).2.st.length (bytes (fP l).2.st)::R):=by
 refine ze Tryz.func125 Tryz.ntmps125 ?_;refine zq ?_;refine ay.aB sb_195 rfl ?_;intro J;refine w ?_;apply VO.pure rfl rfl;apply af.build sb_195 rfl;simp[aC,bR,Value.cells];rfl;rfl;refine zq ?_;refine ay.aB sb_195 rfl ?_;intro K;refine zw ?_;refine ay.gL (vs:=zeroV) ah rfl rfl rfl rfl (fW _ _ _ _ _ _ _) zh (by simp) ?_;refine VO.aR (aP.aR (L:=Row K 195 zeroV::Row J 195 zeroV::R) (by(repeat exact .refl))) ?_;refine w ?_;refine zg ?_ ?_<;>intro o
 ·
  have c:fP l=(1,oY):=lam (.inl (by have:=cI o;omega));refine w ?_;refine zq ?_;refine ay.gL (vs:=zeroV) ah rfl rfl rfl rfl (fW _ _ _ _ _ _ _) zh (by simp[zeroV,dq]) ?_;refine w ?_;refine VE.results2 (.inl rfl) (none,0) rfl (aL.agg (vs:=zeroV) ah rfl rfl zm rfl rfl) (.tmp rfl) trivial (by rw[c];rfl) (by rw[c];exact ae.trans (ae.re (L:=R)) (λw e=>e.aZ _ _))
 have h4:4<=l.length:=by have:=dx o;omega
 refine w ?_;refine zk ?_ ?_<;>intro d
 ·
  have c:fP l=(1,oY):=lam (.inr (by have:=cI d;omega));refine w ?_;refine zq ?_;refine ay.gL (vs:=zeroV) ah rfl rfl rfl rfl (fW _ _ _ _ _ _ _) zh (by simp[zeroV,dq]) ?_;refine w ?_;refine VE.results2 (.inl rfl) (none,0) rfl (aL.agg (vs:=zeroV) ah rfl rfl zm rfl rfl) (.tmp rfl) trivial (by rw[c];rfl) (by rw[c];exact ae.trans (ae.re (L:=R)) (λw e=>e.aZ _ _))
 have ck:l.length<=17:=by have:=dx d;omega
 have cb:=show fP l=_ from aE zO
 refine w ?_;refine VO.re 5 (ii ((l.length-1:Nat):Int)) rfl (by congr 1;omega) ?_;refine zt (s:=C7) (h:=?_);intro M _;refine zw ?_;refine ay.alloc ze_267 rfl rfl ?_;intro n7;refine VO.aR (H':=Row n7 267 [.slice none 0 0]::Own 46 12 (.slice none 0 0) 0 []::Row M 191 [.slice ao l.length cap]::Row K 195 zeroV::Row J 195 zeroV::R) (λw e=>(e.aZ _ _).swap) ?_;refine w ?_
 refine VC.loop (α:=Nat×Option Addr×Nat) (λy=>y.1<=l.length) (λy=>Row n7 267 [.slice y.2.1 (bY l y.1).length y.2.2]::Own 46 12 (.slice y.2.1 (bY l y.1).length y.2.2) (bY l y.1).length (bj (bY l y.1))::Row M 191 [.slice ao l.length cap]::Row K 195 zeroV::Row J 195 zeroV::R)
  (λy=>[(0,.slice ao l.length cap),(2,ip J),(3,i6 0),(4,ip K),(5,ii ((l.length-1:Nat):Int)),(6,T6 M),(7,ip n7),(8,i8 (topN l y.1)),(29,ii l.length),(30,ii y.1)]) (λy=>l.length-y.1) rfl (0,none,0) (c7 _) ae.refl zB ?_
 rintro⟨i,so,sc⟩ hi;dsimp only at hi⊢;have cr:=AK l i;obtain⟨la,rfl⟩:∃a,ao=some a:=by cases ao with|none=>have:=o.gz.nil rfl;omega|some a=>exact⟨a,rfl⟩
 refine w ?_;refine zk ?_ ?_<;>intro d
 ·
  have k:i<l.length:=by have:=cI d;omega
  have eR:∀A B C D E:ab,ae W (A::B::C::D::E::R) R:=λ_ _ _ _ _=>ae.drop (ae.drop (ae.drop (ae.drop (ae.drop ae.refl))));refine zt (s:=sQ i k zO zm (o.aR (eR _ _ _ _ _))) (h:=?_);intro _ _;refine w ?_;have v:bY l (i+1)=bY l i++(if cZ l i=true then[iL l i]else[]):=rfl;have u:topN l (i+1)=if cZ l i=true then max (topN l i) (Oa l i)else topN l i:=rfl;cases ag:cZ l i
  ·
   rw[ag]at v u;simp only[Bool.false_eq_true,if_false,mn]at v u;refine w ?_;refine VE.round (i+1,so,sc) k (by simp only;omega) ⟨rfl,rfl,rfl,rfl,rfl,rfl,rfl,b7 rfl (by rw[u]),rfl,b7 rfl (by congr 1),trivial⟩ ?_;dsimp only;rw[v];exact ae.re
  ·
   rw[ag]at v u;simp only[if_true]at v u;refine w ?_;refine zx [6] 7 [0,1,2,3,4,5,6,7,8] _ ?_;refine w ?_;refine VD.take rfl rfl rfl (.gY ah rfl rfl (o.gz.aR (eR _ _ _ _ _)) ((Hd l i k).trans (by rw[<-iM l i k])) rfl) rfl ?_;refine zq ?_;refine ay.buildSlice (cs:=(iL l i).cells) st_267 rfl rfl (by simp[Value.cells]) (lj _) (by decide) rfl ?_;intro nb;refine zw ?_;refine ay.cg st_267 rfl rfl zh zm rfl (cB _) ?_ ?_ rfl ?_
   · simp only[maxLen];omega
   · omega
   intro bG bE;refine w ?_;refine VO.pure rfl rfl (af.fH ah rfl rfl ((o.gz.aR (eR _ _ _ _ _)).aR ae.re) (Hc l i 2 k (by decide))) rfl ?_;refine w ?_;refine VE.round (i+1,bG,bE) k (by simp only;omega) ⟨rfl,rfl,rfl,rfl,rfl,rfl,rfl,b7 rfl ?_,rfl,b7 rfl (by congr 1),trivial⟩ ?_
   · rw[u];simp only[Oa,fL k];congr 1;omega
   ·
    dsimp only;rw[v,c9,ie,show bj (bY l i++[iL l i])=bj (bY l i)++(iL l i).cells by simp[bj]];exact ae.re
 have bo:i=l.length:=by have:=dx d;omega
 subst bo;have aa:∀s∈bY l l.length,s.fit:=λs Z=>by
  obtain⟨j,h1,N,rfl⟩:=mR l _ s Z;rw[iM l j h1];exact o.fit _ (fF h1)
 have bk:∀s∈bY l l.length,aV W R 1 s.so s.au.length (bytes s.au):=λs Z=>by
  obtain⟨j,h1,N,rfl⟩:=mR l _ s Z;rw[iM l j h1];exact o.st _ (fF h1)
 have bh:=top_att l l.length;have av:=Bw l;have F:bY l l.length=[]->fP l=(150,oY):=λh=>(aE zO).trans (lam h);have m:bY l l.length≠[]->(bY l l.length).any (λs=>!s.rG ((bY l l.length).headD bO))=true->fP l=(151,oY):=λh N=>(aE zO).trans ((aE h).trans (lam N));have O:bY l l.length≠[]->¬(bY l l.length).any (λs=>!s.rG ((bY l l.length).headD bO))=true->(cx l).1≠0->fP l=((cx l).1,oY):=λh N h3=>(aE zO).trans ((aE h).trans ((aE N).trans (lam h3)));have G:bY l l.length≠[]->¬(bY l l.length).any (λs=>!s.rG ((bY l l.length).headD bO))=true->(cx l).1=0->1<kr l (cx l).2.safe (cx l).2.au (cx l).2.au.length->fP l=(152,oY):=λh N h3 h4=>(aE zO).trans ((aE h).trans ((aE N).trans ((aE zO).trans (lam h4))));have z:bY l l.length≠[]->¬(bY l l.length).any (λs=>!s.rG ((bY l l.length).headD bO))=true->(cx l).1=0->¬1<kr l (cx l).2.safe (cx l).2.au (cx l).2.au.length->fP l=(0,rS l (cx l).2):=λh N h3 h4=>(aE zO).trans ((aE h).trans ((aE N).trans ((aE zO).trans (aE h4))));have t:cx l=if cZ l (l.length-1)=true then(0,iL l (l.length-1))else j2 (lU (bY l l.length) (topN l l.length)):=rfl;generalize bY l l.length=V at*;refine VC.bH (p:=so=none->V.length=0) (λw e=>Holds.bn e (.tail _ (.head _))) ?_;intro bb;refine VC.bH (p:=V.length<=sc) (λw e=>Holds.jd e (.tail _ (.head _))) ?_;intro ad;refine w ?_;refine zk ?_ ?_<;>intro d
 ·
  have b:V=[]:=List.eq_nil_of_length_eq_zero (by have:=d;simp at this;rw[this];rfl);refine w ?_;refine zq ?_;refine ay.gL (vs:=zeroV) ah rfl rfl rfl rfl (fW _ _ _ _ _ _ _) zh (by simp[zeroV,dq]) ?_;refine w ?_;refine VE.results2 (.inl rfl) (none,0) rfl (aL.agg (vs:=zeroV) ah rfl rfl zm rfl rfl) (.tmp rfl) trivial (by rw[F b];rfl) (by rw[F b];exact ae.trans (ae.re (L:=R)) (λw e=>e.aZ _ _))
 have b:V≠[]:=λh=>by rw[h]at d;simp at d
 have Q:0<V.length:=CD.2 b;obtain⟨sa,rfl⟩:∃a,so=some a:=by cases so with|none=>have:=bb rfl;omega|some a=>exact⟨a,rfl⟩
 have bp:V.headD bO=V[0]:=by cases V with|nil=>exact lcs rfl b|cons x r=>rfl
 rw[bp]at m O G z;refine w ?_;refine VO.pure rfl rfl (af.pU rfl) rfl ?_;have bf:∀X Y:List ab,aV W (X++Own 46 12 (.slice (some sa) V.length sc) V.length (bj V)::Y) 12 (some sa) V.length (bj V):=λX Y=>aV.own (vN V) (List.mem_append_right _ (.head _)) (kN V) (by simp);refine zt (s:=uY (λs=>!s.rG V[0]) zO (bf [_] _) (λ_ _=>by simp) (λs Z=>Fx s Q (aa s Z) (aa _ (fF Q)) (bf [_] _) (.head _))) (h:=?_);intro _ _;refine w ?_;refine zk ?_ ?_<;>intro d
 · refine w ?_;refine zq ?_;refine ay.gL (vs:=zeroV) ah rfl rfl rfl rfl (fW _ _ _ _ _ _ _) zh (by simp[zeroV,dq]) ?_;refine w ?_;refine VE.results2 (.inl rfl) (none,0) rfl (aL.agg (vs:=zeroV) ah rfl rfl zm rfl rfl) (.tmp rfl) trivial (by rw[m b d];rfl) (by rw[m b d];exact ae.trans (ae.re (L:=R)) (λw e=>e.aZ _ _))
 have n:¬V.any (λs=>!s.rG V[0])=true:=by rw[d];simp
 have g:l.length-1<l.length:=by omega
 refine zt (s:=sQ (l.length-1) g zO zm (o.aR (ae.drop (ae.drop (ae.drop (ae.drop (ae.drop ae.refl))))))) (h:=?_);intro _ _;generalize br:cZ l (l.length-1)=jr at*;apply VO.pure rfl rfl;apply af.build sb_195 rfl;simp[aC,bR,Value.cells];rfl;rfl;refine zq ?_;refine ay.aB sb_195 rfl ?_;intro n10;refine zw ?_;refine ay.gL (vs:=dq bO none 0 0 0 false jr) ah rfl rfl rfl rfl (fW _ _ _ _ _ _ _) zh (by simp) ?_;refine VO.aR (aP.aR (L:=Row n10 195 (dq bO none 0 0 0 false jr)::Row n7 267 [.slice (some sa) V.length sc]::Own 46 12 (.slice (some sa) V.length sc) V.length (bj V)::Row M 191 [.slice (some la) l.length cap]::Row K 195 zeroV::Row J 195 zeroV::R) (by(repeat exact .refl))) ?_;refine VO.nil rfl ?_;refine VE.next ?_;refine VC.seq rfl ?_
 refine VC.join (α:=Unit) (λ_=>(cx l).1=0) (λ_=>Row n10 195 (dq (cx l).2 (cx l).2.so (cx l).2.au.length (cx l).2.sc (cx l).2.dc false jr)::Row M 191 [.slice (some la) l.length cap]::Row K 195 zeroV::Row J 195 zeroV::R)
  (λ_=>[(0,.slice (some la) l.length cap),(2,ip J),(3,i6 0),(4,ip K),(6,T6 M),(8,i8 (topN l l.length)),(10,ip n10)]) ?_ ?_
 ·
  intro Q2 jn;unfold dq;refine w ?_;cases jr
  ·
   simp only[Bool.false_eq_true,if_false]at t;refine zr (s:=F5 (R:=Row n10 195 (dq bO none 0 0 0 false false)::Row n7 267 [.slice (some sa) V.length sc]::Row M 191 [.slice (some la) l.length cap]::Row K 195 zeroV::Row J 195 zeroV::R) zO aa (λs Z=>(bk s Z).aR (ae.drop (ae.drop (ae.drop (ae.drop (ae.drop ae.refl)))))) (bh b) bb ad) (h:=?_);intro _ _;rw[<-t];refine zw ?_;refine ay.aB sb_46 rfl ?_;intro n11;refine zl ((cx l).2.cells) (cB _) ?_;refine zk ?_ ?_<;>intro d
   ·
    have f:(cx l).1≠0:=by simpa using d
    refine w ?_;refine zq ?_;refine ay.gL (vs:=zeroV) ah rfl rfl rfl rfl (fW _ _ _ _ _ _ _) zh (by simp[zeroV,dq]) ?_;refine w ?_;refine jn.ret ?_;refine w ?_;refine VE.results2 (.inl rfl) (none,0) rfl (aL.agg (vs:=zeroV) ah rfl rfl zm rfl rfl) (.tmp rfl) trivial (by rw[O b n f];rfl) (by rw[O b n f];exact ae.trans (ae.re (L:=R)) (λw e=>e.aZ _ _))
   ·
    have f:(cx l).1=0:=by simpa using d
    refine zw ?_;refine ay.gL (vs:=(cx l).2.cells) ah rfl rfl rfl rfl (cB _) zh (by simp[dq]) ?_;refine w ?_;exact jn.to () f zB ae.re
  ·
   simp only[if_true]at t;refine w ?_;refine VO.pure rfl rfl (.gY ah rfl rfl (o.gz.aR (ae.drop (ae.drop (ae.drop (ae.drop (ae.drop (ae.drop ae.refl))))))) ((Hd l (l.length-1) g).trans (show _=(cx l).2.cells by rw[t,iM l _ g])) rfl) rfl ?_;refine zw ?_;refine ay.gL (vs:=(cx l).2.cells) ah rfl rfl rfl rfl (cB _) zh (by simp[dq]) ?_;refine w ?_;exact jn.to () (by rw[t]) zB ae.re
 rintro⟨⟩ f;obtain⟨gi,an,q⟩:=av f b;have P:=sR l gi an;have S:=yK l gi an;have bs:(cx l).2.fit:=by rw[q,iM l gi P];exact o.fit _ (fF P)
 have bw:aV W R 1 (cx l).2.so (cx l).2.au.length (bytes (cx l).2.au):=by rw[q,iM l gi P];exact o.st _ (fF P)
 rw[<-q]at S;have H:=show rS l (cx l).2=_ from rfl
 have U:=G b n f;have T:=z b n f;clear F m O G z t av q bh;generalize(cx l).2=s at*;unfold dq;refine w ?_;have bt:=bs.len;refine zt (s:=wu (bw.aR (ae.drop (ae.drop (ae.drop (ae.drop ae.refl))))) zO) (h:=?_);rintro⟨co,cc⟩ _;dsimp only;refine VO.bH (p:=co=none->s.au.length=0) (λw e=>Holds.bn e (.head _)) ?_;intro bm;obtain⟨ca,rfl⟩:∃a,co=some a:=by cases co with|none=>have:=bm rfl;omega|some a=>exact⟨a,rfl⟩
 refine w ?_;obtain⟨lb,I⟩:∃lb,lb=(s.lost&&!jr):=⟨_,rfl⟩
 refine VO.Ti (α:=Unit) (λ_=>True) (λ_=>Row n10 195 (dq (TN s lb) (some ca) s.au.length cc s.dc false jr)::Own 96 1 (.slice (some ca) s.au.length cc) s.au.length (bytes s.au)::Row M 191 [.slice (some la) l.length cap]::Row K 195 zeroV::Row J 195 zeroV::R)
  (λ_=>[(0,.slice (some la) l.length cap),(2,ip J),(3,i6 0),(4,ip K),(6,T6 M),(8,i8 (topN l l.length)),(10,ip n10)]) ?_ ?_
 ·
  intro Q2 jn;cases ba:s.lost
  ·
   rw[ba]at I;subst I;refine w ?_;exact jn.to () trivial zB ae.re
  ·
   rw[ba]at I;subst I;refine w ?_;exact jn.to () trivial zB ae.re
 rintro⟨⟩-;have H:rS l s=⟨(yu s lb (topN l l.length)),iH l s.safe s.au s.au.length,if qF l s.safe s.au s.au.length=true then 0 else s.dc,uM l s.safe s.au s.au.length,jr⟩:=by rw[I];simp only[rS,br,yu]
 unfold dq;refine zt (s:=I9 (R:=Row M 191 [.slice (some la) l.length cap]::Row K 195 zeroV::Row J 195 zeroV::R) (yu s lb (topN l l.length)) jr s.au zO S (.head _) (o.aR (ae.drop (ae.drop (ae.drop ae.refl))))) (h:=?_);intro _ _;unfold Br;refine w ?_;refine zk ?_ ?_<;>intro d
 ·
  have c:=U (by have:=cI d;simp only[yu]at this;omega);refine w ?_;refine zq ?_;refine ay.gL (vs:=zeroV) ah rfl rfl rfl rfl (fW _ _ _ _ _ _ _) zh (by simp[zeroV,dq]) ?_;refine w ?_;refine VE.results2 (.inl rfl) (none,0) rfl (aL.agg (vs:=zeroV) ah rfl rfl zm rfl rfl) (.tmp rfl) trivial (by rw[c];rfl) (by rw[c];exact ae.trans (ae.re (L:=R)) (λw e=>e.aZ _ _))
 have c:=T (by have:=dx d;simp only[yu]at this;omega);rw[H]at c;refine zw ?_;refine ay.gL (vs:=dq (yu s lb (topN l l.length)) (some ca) s.au.length cc (if qF l s.safe s.au s.au.length=true then 0 else s.dc) (uM l s.safe s.au s.au.length) jr) ah rfl rfl rfl rfl (fW _ _ _ _ _ _ _) zh (by simp[zeroV,dq]) ?_;refine w ?_;refine VE.results2 (.inl rfl) (some ca,cc) rfl (aL.agg (vs:=dq (yu s lb (topN l l.length)) (some ca) s.au.length cc (if qF l s.safe s.au s.au.length=true then 0 else s.dc) (uM l s.safe s.au s.au.length) jr) ah rfl rfl zm rfl rfl) (.tmp rfl) trivial ?_ ?_
 · rw[c];simp only[Io.cells,r8]
 · rw[c];simp only[r8];exact ae.re
theorem AJ(l:List cO):∀i j,j<i->cZ l j=true->iL l j∈bY l i
  |0,j,h,_=>lcs h (by omega)
  |i+1,j,h,a=>by
    rw[bY];rcases w9 j i with q|q
    · exact List.mem_append_left _ (AJ l i j q a)
    · obtain rfl:j=i:=by omega
      rw[lam a];exact List.mem_append_right _ (.head _)
def za(l:List cO)(safe:Nat)(st:List UInt8)(m:Nat):Prop:=(kk st m != 1||!ql l safe st m)=true
theorem xg:∀{l:List UInt8},dE l=0->∀x∈l,x=0
  |[],_,x,h=>by cases h
  |c::r,h,x,hx=>by
    unfold dE at h;have a:c.toNat=0:=by omega
    have b:dE r=0:=by omega
    rcases List.mem_cons.1 hx with rfl|hx
    · exact UInt8.toNat_inj.1 a
    · exact xg b x hx
theorem yN{l:List UInt8}(h:∀x∈l,x=0):fh l=-1:=by
 unfold fh;rw[show l.findIdx? (· != 0)=none from List.findIdx?_eq_none_iff.2 (λx a=>by rw[h x a];rfl)]
theorem P1{s:ai}(h:s.In):ft (cE s.body) 12=⟨cE s.body,44,0,0⟩:=by
 have f:=lq h;have e:=gk h (k:=11) rfl;generalize cE s.body=S at*;have a:=Rk.eo (k:=⟨S,42,0,0⟩) (n:=2) rfl (by simp only;omega);have b:(Rk.mk S 42 0 0).jk 2=(S.drop 42).take 2:=a.1;have c:(Rk.mk S 42 0 0).short 2=⟨S,42,0,0⟩:=a.2.1;have d:fh ((S.drop 42).take 2)=-1:=yN (xg e);unfold ft;rw[aE (by decide)];unfold Rk.nF;rw[aE (by decide),show(2:Int).toNat=2 from rfl,b,c,d,aE (by simp),aE (by decide)]
theorem AE{S:List UInt8}(a:S.length=128):∀i,i<=16->lI ⟨S,44,0,0⟩ i=⟨S,44+i,0,0⟩
  |0,_=>rfl
  |i+1,h=>by
    have b:=AE a i zO;show(lI ⟨S,44,0,0⟩ i).number 1=_;rw[b,(Rk.eo (k:=⟨S,44+i,0,0⟩) (n:=1) rfl (by simp only;omega)).2.2];rfl
theorem Kg{s:ai}(h:s.In):l6 (cE s.body)=s.au.length:=by
 unfold l6;rw[show aO (cE s.body) 33 1=s.members.toNat from gk h (k:=5) rfl];have:=h.len;have:=h.members;omega
theorem EC{s:ai}(h:s.In):kF (ft (cE s.body) 12) (l6 (cE s.body))=s.au:=by
 rw[P1 h,Kg h];have c:=lq h;apply E6
 · rw[nR]
 intro i e b;have d:=GA h (fL b);have a:=h.HI;simp only[kF,Jz,List.getElem_range];rw[AE c i zO,(Rk.eo (k:=⟨cE s.body,44+i,0,0⟩) (n:=1) rfl (by simp only;omega)).1];show UInt8.ofNat (aO (cE s.body) (44+i) 1)=_;rw[d];simp
theorem xF{s:ai}(h:s.In):ai.parse (cE s.body)=s.hold (none,0) s.au:=by
 have c:=gk h (k:=1) rfl;have d:=gk h (k:=2) rfl;have e:=gk h (k:=3) rfl;have f:=gk h (k:=4) rfl;have n5:=gk h (k:=5) rfl;have n6:=gk h (k:=6) rfl;have n7:=gk h (k:=7) rfl;have n8:=gk h (k:=8) rfl;have n9:=gk h (k:=9) rfl;have n10:=gk h (k:=10) rfl;have g:=EC h;have a:decide (s.flags%2=1)=s.lazy:=by unfold ai.flags mB;cases s.lazy<;>cases s.lost<;>rfl
 have b:decide (s.flags/2%2=1)=s.lost:=by unfold ai.flags mB;cases s.lazy<;>cases s.lost<;>rfl
 generalize cE s.body=S at*;obtain⟨i,j,l,m,n,o,p,q,r,_,_⟩:=h;unfold ai.parse ai.hold;rw[show aO S 8 8=_ from c,show aO S 16 8=_ from d,show aO S 24 8=_ from e,show aO S 32 1=_ from f,show aO S 33 1=_ from n5,show aO S 34 1=_ from n6,show aO S 35 1=_ from n7,show aO S 36 2=_ from n8,show aO S 38 2=_ from n9,show aO S 40 2=_ from n10,g,a,b];rw[BF zO,BF zO,BF zO,BF zO,BF zO,BF zO]
theorem Ke{s:ai}(a:s.yD)(h:s.In):jg (cE s.body)=(0,s.hold (none,0) s.au):=by
 have c:=lq h;have b:(ai.parse (cE s.body)).enc=(0,cE s.body):=by rw[xF h,DD,H3 a]
 unfold jg;rw[aE zO,aE (λq=>q Kf),aE (λq=>q (Ns h)),lam b,xF h]
end Go.Proofs.YtldolcbbmnmjoaaGreat
