import Derived.Test.YtldolcbbmnmjoaaGreatM11
set_option maxRecDepth 8000
set_option maxHeartbeats 16000000
set_option linter.unusedVariables false
set_option linter.unusedSimpArgs false
set_option linter.unusedSectionVars false
set_option linter.defProp false
namespace Go.Proofs.YtldolcbbmnmjoaaGreat
open Go.RowKit Go.Sl
attribute [local irreducible] Sl.Own
theorem GH{W:World}{R:List ab}(x:Nat)(c:UInt8)(n:Nat)(m:1<=n)(r:n<=1048576):
    aq W Tryz.prog 51 [.slice (ik x) 1 1,ii n] (Row x 96 [gv c]::R) (β:=Nat) (λ_=>True) (λb=>.slice (ik b) n n)
      (λb=>Sl.Own 96 1 (.slice (ik b) n n) n (bytes (List.replicate n c))::Row x 96 [gv c]::R):=by
  refine ze Tryz.func51 Tryz.ntmps51 ?_;refine VO.re 15 (i8 ((1:Nat):Int)) rfl (by rw[dB zO]) ?_;refine VO.re 17 (i8 n) rfl (by rw[dB zO]) ?_;refine zr (s:=F8 n zO) (h:=?_);intro _ _;refine w ?_;refine VC.aK rfl rfl (by simp;omega) ?_;refine w ?_;refine VO.re 29 (ii n) rfl (by congr 1;exact IntWalk.i64_in _ zO) ?_;refine zq ?_;refine ay.dd st_44 rfl rfl rfl ?_ ?_ rfl ?_
  · omega
  · simp only[maxLen];omega
  intro b;refine w ?_;refine zq ?_;refine ay.copy st_44 rfl rfl zh (λw e=>jW.row (ys:=[]) (xs:=[gv c]) (by simp) rfl e (by simp only[mn];(focus repeat first|exact .head _|apply List.Mem.tail))) rfl ?_;refine w ?_;have i:(bytes [c]).take (1*1)++(List.replicate n (Value.int .u8 0)).drop (1*1)=bytes (List.replicate 1 c++List.replicate (n-1) 0):=by
    rw[dQ,dD];simp[bytes]
  have k:min 1 n=1:=by omega
  rw[k]
  refine VC.loop (α:=Nat) (λj=>1<=j/\j<=n) (λj=>Sl.Own 96 1 (.slice (ik b) n n) n (bytes (List.replicate j c++List.replicate (n-j) 0))::Row x 96 [gv c]::R)
    (λj=>[(7,.slice (ik b) n n),(8,ii j)]) (λj=>n-j) rfl 1 ⟨eI _,m⟩ ?_ ⟨rfl,rfl,trivial⟩ ?_
  · rw[<-i];exact ae.refl
  · rintro j ⟨p,o⟩
    refine w ?_
    refine zk ?_ ?_<;>intro f
    · have d:j<n:=by simpa using f
      refine w ?_
      refine zx [7] 8 [0,1,2,3,4,5,6,7,8,9] [] ?_
      refine w ?_
      have q:aV W (Sl.Own 96 1 (.slice (ik b) n n) n (bytes (List.replicate j c++List.replicate (n-j) 0))::Row x 96 [gv c]::R) 1 (ik b) n (bytes (List.replicate j c++List.replicate (n-j) 0)):=aV.own (aQ _) zm (by simp;omega) (by simp)
      refine zq ?_;refine ay.Bg st_44 rfl rfl zh (d) (λw e=>(q.take o).Kh e) rfl ?_
      refine w ?_
      have l:(bytes (List.replicate j c++List.replicate (n-j) 0)).take (j*1)++((bytes (List.replicate j c++List.replicate (n-j) 0)).take (j*1)).take (min j (n-j)*1)++(bytes (List.replicate j c++List.replicate (n-j) 0)).drop (j*1+min j (n-j)*1)
          =bytes (List.replicate (j+min j (n-j)) c++List.replicate (n-(j+min j (n-j))) 0):=by
        simp only[Nat.mul_one,dQ];have g:(bytes (List.replicate j c)++bytes (List.replicate (n-j) 0)).take j=bytes (List.replicate j c):=by
          rw[Tj (by simp),qy (by simp)]
        rw[g];have a2:(bytes (List.replicate j c)).take (min j (n-j))=bytes (List.replicate (min j (n-j)) c):=by simp[bytes,List.take_replicate]
        have a3:(bytes (List.replicate j c)++bytes (List.replicate (n-j) 0)).drop (j+min j (n-j))=bytes (List.replicate (n-(j+min j (n-j))) 0):=by
          rw[List.drop_append];simp[bytes,List.drop_replicate];omega
        rw[a2,a3,<-dQ,List.replicate_append_replicate]
      rw[l]
      refine VE.round (j+min j (n-j)) ⟨by omega,by omega⟩ zO ⟨rfl,b7 rfl (by simp),trivial⟩ ae.refl
    · have a:j=n:=by have:¬j<n:=by simpa using f
                     omega
      subst a
      refine w ?_
      refine VE.done b rfl trivial rfl ?_
      simp only[E7,List.replicate_zero,mn]
      exact ae.refl
structure CI where
  a:Nat
  r:Nat
  w:Nat
  so:Addr
  sc:Nat
  t:iu
abbrev Fz(b m c s ring:Nat)(lazy:Bool)(d:Addr)(a:Nat)(r w:Option Addr):aY:=⟨b,1,1,1,0,m,c,s,ring,lazy,false,d,a,List.replicate m 1,0,r,w,false,true,false⟩
abbrev CI.X(b m c s ring:Nat)(lazy:Bool)(z:CI):aY:=Fz b m c s ring lazy z.so z.sc (ik z.r) (ik z.w)
structure QR(m c s ring:Nat)(lazy:Bool)(K:Kd):Prop where
  hm:3<=m/\m<=16
  hc:1<=c/\c<=16
  hs:1<=s/\s<=256
  hr:5<=ring/\ring<=2048
  k:∀i,i<m->K i=some (ak.blank (1+s*c))
  j:K m=some (ak.blank (2+ring))
  mL:∀b so sc r w k,k<=m->m<=sc->((Fz b m c s ring lazy so sc r w).mL k).fit/\((Fz b m c s ring lazy so sc r w).mL k).enc.1=0/\((Fz b m c s ring lazy so sc r w).mL k).enc.2.length=128
structure KY(b m c s ring c0:Nat)(lazy:Bool)(z:CI):Prop where
  ok:z.t.ok (m+1) z.w (List.replicate m (-1)) λ_ _=>dC
  cap:m<=z.sc
  Y:z.t.Y.fix=⟨b,m,c,s,ik z.w,lazy,z.t.Y.fa,none,0,[],false⟩
  wl:z.t.Y.wl=[]
  sure:z.t.v.sure=true
  size:z.t.v.size=ring
  cy:z.t.x.cy=[]
  mx:z.t.c<=c0+70000
  len:∀i,i<m->∃kd,z.t.K i=some kd/\kd.last.length=1+s*c
  sr:∀i:Nat,i<=m->∃kd,z.t.K i=some kd/\Sr kd 0 ((z.X b m c s ring lazy).bytesOf i)
theorem pM(N:Nat):(ak.blank N).last.length=N:=by unfold ak.blank;dsimp only;rw[j0]
theorem Lw{N a:Nat}(h:a<N):Sr (ak.blank N) a dC:=⟨by unfold ak.blank;dsimp only;rw[Oe,lam h];rfl,λp b=>by cases b⟩
structure SM(m N:Nat)(kj:ak)(K:Kd):Prop where
  k:∀i,i<m->∃kd,K i=some kd/\kd.last.length=N/\∀a,a<N->Sr kd a dC
  j:K m=some kj
theorem SM.write{m N i a:Nat}{d c:ak}{K:Kd}(h:SM m N d K)(k:i<m)(g:K i=some c):SM m N d (ez K i (c.write a dC)):=⟨λj b=>by
 by_cases q:j=i
 ·
  subst q;obtain⟨n,e,l,z⟩:=h.k j b;rw[g]at e;cases e;exact⟨_,eZ _ _ _,l,λa f=>(z a f).write λ_=>rfl⟩
 · rw[dH _ _ q];exact h.k j b,by rw[dH _ _ zO];exact h.j⟩
def o4(m q:Nat):Nat:=if q=0 then m else q-1
abbrev sg(m j:Nat):List Value:=ii m::(List.range j).map λi:Nat=>ii (i:Int)
theorem MU(m j:Nat):(sg m j).length=(j+1)*1:=by simp
theorem JO(m j:Nat):sg m (j+1)=sg m j++[ii j]:=by unfold sg;rw[KQ,jv];rfl
theorem MV(m j:Nat):∀u∈sg m j,u.oneCell'=true:=by
 intro u hu;rcases List.mem_cons.1 hu with rfl|hu
 · rfl
 · obtain⟨i,_,rfl⟩:=fG.1 hu;rfl
theorem MT{m j q:Nat}(h:q<j+1):(sg m j)[q]?=some (ii (o4 m q)):=by
 cases q with
 |zero=>rfl
 |succ q=>show((List.range j).map _)[q]?=_;rw[law,List.getElem?_range zO];rfl
def mD(X:aY)(m j q:Nat)(K:Kd):Kd:=λi=>if i<=m then(K i).map (kY (X.bytesOf i) (if(if i=m then 0 else i+1)<q then j+1 else j))else K i
theorem IZ(X:aY)(m j:Nat)(K:Kd):mD X m j (m+1) K=mD X m (j+1) 0 K:=funext λi=>by
 unfold mD;by_cases h:i<=m
 · rw[lam h,lam h,lam (by split<;>omega),aE (Nat.not_lt_zero _)]
 · rw[aE h,aE h]
theorem I1(X:aY)(m:Nat)(K:Kd):mD X m 0 0 K=K:=funext λi=>by
 unfold mD;split
 · rw[aE (Nat.not_lt_zero _)];cases K i<;>rfl
 · rfl
theorem BQ{m q:Nat}(h:q<=m):o4 m q<=m:=by unfold o4;split<;>omega
theorem I0(X:aY){m j q:Nat}{K:Kd}{b:ak}(h:q<=m)(c:K (o4 m q)=some b):mD X m j q K (o4 m q)=some (kY (X.bytesOf (o4 m q)) j b)/\mD X m j (q+1) K=ez (mD X m j q K) (o4 m q) (kY (X.bytesOf (o4 m q)) (j+1) b):=by
 have e:(if o4 m q=m then 0 else o4 m q+1)=q:=by unfold o4;split<;>split<;>omega
 have d:=BQ h;refine⟨by unfold mD;rw[lam d,e,aE (Nat.lt_irrefl q),c];rfl,funext λi=>?_⟩;unfold ez;by_cases g:i=o4 m q
 · subst g;rw[lam rfl];unfold mD;rw[lam d,e,lam (Nat.lt_succ_self q),c];rfl
 ·
  rw[aE g];unfold mD;by_cases a:i<=m
  ·
   rw[lam a,lam a];have:((if i=m then 0 else i+1)<q+1)=((if i=m then 0 else i+1)<q):=by
    have k:(if i=m then 0 else i+1)≠q:=λf=>g (by unfold o4;subst f;split<;>split<;>omega);exact propext ⟨λ_=>by omega,λ_=>by omega⟩
   simp only[this]
  · rw[aE a,aE a]
theorem AX:∀n,ia (λ_=>dC) n=dC:=by
 intro n;induction n with
 |zero=>rfl
 |succ n a=>show eP (ia (λ_=>dC) n) dC=dC;rw[a];exact eg rfl
theorem I2{W:World}{R:List ab}{D:aw}{K:Kd}{m c s ring c0:Nat}{lazy:Bool}(b:Nat)(h:QR m c s ring lazy K)(hq:Bq D (m+1) K c0)(dV:c0<=10000):
  aq W Tryz.prog 23 [ip b,i8 1,.agg (cv m c s).toArray,ii ring,.bool lazy] (al b D::R) (β:=CI) (KY b m c s ring c0 lazy) (λz=>.tuple #[ip z.a,i6 0]) (λz=>Row z.a 94 (z.X b m c s ring lazy).cells::dz (z.X b m c s ring lazy)::sF z.t z.r z.w (List.replicate m (-1)) R):=by
 have hm:=h.hm;have I:=h.hc;have T:=h.hs;have S:=h.hr;have cy:s*c<=256*16:=RC T.2 I.2;refine ze Tryz.func23 Tryz.ntmps23 ?_;refine zj λ_=>?_;refine w ?_;rename_i g;refine zt (s:=jH ⟨m,c,s⟩) (h:=?_);intro _ _;rw[lam ⟨⟨by dsimp only;omega,by dsimp only;omega⟩,⟨by dsimp only;omega,by dsimp only;omega⟩,by dsimp only;omega,by dsimp only;omega⟩];refine w ?_;refine zx [1] 5 [0,2,3,4,1,5,6,7,8,9,10,11,12,13] _ ?_;refine zr (s:=fK b D) (h:=?_);intro _ _;rw[hq.len];refine w ?_;refine VD.gF rfl rfl rfl (by simp) ?_;refine w ?_;refine VD.gF rfl rfl rfl (gx zO) ?_;refine w ?_;refine VC.aK rfl rfl (gx zO) ?_;refine zr (s:=fK b D) (h:=?_);intro _ _;rw[hq.len];refine w ?_;refine VC.loop (α:=Nat) (λi=>i<=m+1) (λ_=>Row g 36 (cv m c s)::al b D::R) (λi=>[(0,ip b),(1,i8 1),(3,ii ring),(4,.bool lazy),(7,ip g),(46,ii (m+1:Nat)),(47,ii i)]) (λi=>m+1-i) rfl 0 (c7 _) ae.re ⟨rfl,rfl,rfl,rfl,rfl,rfl,rfl,trivial⟩ ?_;intro i C;refine w ?_;refine zk ?_ ?_<;>intro f
 ·
  have t:i<m+1:=by have:=cI f;omega
  clear f;obtain⟨N,hN,bb⟩:∃N,K i=some (ak.blank N)/\N=if i=m then 2+ring else 1+s*c:=by
   by_cases q:i=m
   · subst q;exact⟨_,h.j,(lam rfl).symm⟩
   · exact⟨_,h.k i zO,(aE q).symm⟩
  have ad:D.dev (i:Int)=some ⟨ak.blank N,false,0⟩:=FC (hq.is i _ hN).1;have dr:(ak.blank N).last.length=N:=pM N;refine zt (s:=gn hm I T) (h:=?_);intro _ _;refine w ?_;refine VC.join (α:=Unit) (λ_=>True) (λ_=>Row g 36 (cv m c s)::al b D::R) (λ_=>[(0,ip b),(1,i8 1),(3,ii ring),(4,.bool lazy),(7,ip g),(13,ii i),(14,ii N),(46,ii (m+1:Nat)),(47,ii i)]) ?_ ?_
  ·
   intro Q2 jn;refine zk ?_ ?_<;>intro f
   ·
    have q:i=m:=by have:=cI f;omega
    clear f;refine w ?_;exact jn.to () trivial ⟨rfl,rfl,rfl,rfl,rfl,rfl,b7 rfl (by rw[bb,lam q];congr 1),rfl,rfl,trivial⟩ ae.re
   ·
    have q:¬i=m:=by have:=dx f;omega
    clear f;refine w ?_;exact jn.to () trivial ⟨rfl,rfl,rfl,rfl,rfl,rfl,b7 rfl (by rw[bb,aE q];congr 1),rfl,rfl,trivial⟩ ae.re
  intro _ _;refine zr (s:=zc b D i) (h:=?_);intro _ _;rw[ad];refine w ?_;refine VO.gF rfl rfl rfl (by simp[ak.blank]) ?_;refine zr (s:=jS b D i) (h:=?_);intro _ _;rw[ad];refine w ?_;refine VC.aK rfl rfl (gx (by simp only[Option.elim];omega)) ?_;refine w ?_;exact VE.round (i+1) t zO ⟨rfl,rfl,rfl,rfl,rfl,rfl,b7 rfl (by congr 1),trivial⟩ ae.re
 clear f;refine w ?_;obtain⟨rows,L⟩:∃rows,rows=s*c:=⟨_,rfl⟩;have da:1<=rows:=by rw[L];exact Nat.mul_pos T.1 I.1
 have bt:SM m (1+rows) (ak.blank (2+ring)) K:=⟨λi C=>⟨_,h.k i C,by rw[L];exact pM _,λa ha=>Lw (by rw[<-L];exact ha)⟩,h.j⟩;refine VC.loop (α:=Nat×aw×Kd) (λy=>y.1<=m/\Bq y.2.1 (m+1) y.2.2 (c0+y.1*4096)/\SM m (1+rows) (ak.blank (2+ring)) y.2.2) (λy=>Row g 36 (cv m c s)::al b y.2.1::R) (λy=>[(0,ip b),(1,i8 1),(3,ii ring),(4,.bool lazy),(7,ip g),(72,ii m),(73,ii y.1)]) (λy=>m-y.1) rfl (0,D,K) ⟨c7 _,hq.mono (Nat.le_add_right _ _),bt⟩ ae.re ⟨rfl,rfl,rfl,rfl,rfl,rfl,rfl,trivial⟩ ?_;rintro⟨i,D1,K1⟩ ⟨C,o,v⟩;dsimp only at C o v;refine w ?_;refine zk ?_ ?_<;>intro f
 ·
  have t:i<m:=by have:=cI f;omega
  clear f;refine zt (s:=gn hm I T) (h:=?_);intro _ _;rw[<-L];refine w ?_;refine VC.loop (α:=Nat×aw×Kd) (λy=>y.1<=rows/\Bq y.2.1 (m+1) y.2.2 (c0+i*4096+y.1)/\SM m (1+rows) (ak.blank (2+ring)) y.2.2) (λy=>Row g 36 (cv m c s)::al b y.2.1::R) (λy=>[(0,ip b),(1,i8 1),(3,ii ring),(4,.bool lazy),(7,ip g),(15,ii i),(72,ii m),(73,ii i),(77,ii rows),(78,ii y.1)]) (λy=>rows-y.1) rfl (0,D1,K1) ⟨c7 _,o,v⟩ ae.re ⟨rfl,rfl,rfl,rfl,rfl,rfl,rfl,rfl,rfl,rfl,trivial⟩ ?_;clear o v;rintro⟨j,D1,K1⟩ ⟨hj,o,v⟩;dsimp only at hj o v;refine w ?_;refine zk ?_ ?_<;>intro f
  ·
   have ch:j<rows:=by have:=cI f;omega
   clear f;obtain⟨n,B,aa,eb⟩:=v.k i t;refine zw ?_;refine ay.dd eH rfl rfl rfl ?_ ?_ rfl ?_
   · decide
   · simp only[maxLen];omega
   intro nb;refine w ?_;have bx:=zn (W:=W) (R:=Row g 36 (cv m c s)::R) (d:=dC) (x:=(ik nb,128)) b o zO i (1+j) B zO rfl;refine zq ?_;refine ay.call rfl rfl (λ_ _=>by simp) (bx) (by rw[show bytes dC=List.replicate 128 (ib 0)from dD 128];exact ae.re) rfl ?_;intro F P;have cY:=v.write (a:=1+j) t B;refine w ?_;exact VE.round (j+1,F,_) ⟨ch,P.mono (by dsimp only;omega),cY⟩ (by dsimp only;omega) ⟨rfl,rfl,rfl,rfl,rfl,rfl,rfl,rfl,rfl,b7 rfl (by congr 1),trivial⟩ ae.re
  clear f;refine w ?_;exact VE.round (i+1,D1,K1) ⟨t,o.mono (by dsimp only;omega),v⟩ (by dsimp only;omega) ⟨rfl,rfl,rfl,rfl,rfl,rfl,b7 rfl (by congr 1),trivial⟩ ae.re
 have bk:i=m:=by have:=dx f;omega
 clear f C;rw[bk]at o;clear bk;obtain⟨F,kj,e2,p2,l2,f2,n2⟩:=Ds (epoch:=1) (o.pw v.j) S (eI _) (by decide) o.c8;obtain⟨ea,bm⟩:=l2.sure rfl;have P:Bq F (m+1) (ez K1 m kj) (c0+m*4096):=o.Pa p2 ⟨(l2.rep rfl).all,λx hx=>(by rw[bm]at hx;cases hx),by omega⟩ (by rw[bm];exact c7 _) (eI _) f2;have hF:=Cr (W:=W) (R:=Row g 36 (cv m c s)::R) (D:=D1) (epoch:=1) b (m:Int) (ring:Int) (by decide) o.cap zO;rw[e2,Int.toNat_natCast]at hF;refine zr (s:=hF) (h:=?_);intro x hx;obtain⟨wp,rfl⟩:∃wp,x=some wp:=Option.isSome_iff_exists.1 hx;refine w ?_;refine VO.aR (H':=bz wp b (bA (m:Int) 1 ring)::al b F::Row g 36 (cv m c s)::R) ae.re ?_;refine VO.pure rfl rfl (af.build sb_46 rfl (show aC _ _ _=some [i8 1,i8 1,i8 1,ii 0,ii m,ii c,ii s,ii ring,.bool lazy,.bool false,.slice none 0 0,ii 0]by simp[aC,bR,Value.cells])) rfl ?_;obtain⟨cs,au⟩:∃cs:List Value,cs=[ip b,i8 1,i8 1,i8 1,ii 0,ii m,ii c,ii s,ii ring,.bool lazy,.bool false,.slice none 0 0,ii 0,.pointer none,ip wp,.bool false,i6 0,.bool true,.bool false]:=⟨_,rfl⟩;refine VO.pure rfl rfl (af.build sb_94 rfl (show aC _ _ _=some cs by rw[au];simp[aC,bR,Value.cells])) rfl ?_;refine zq ?_;refine ay.box (cs:=cs) rfl (by rw[au];rfl) rfl ?_;intro a;refine w ?_;refine zq ?_;refine ay.bP st_44 rfl rfl (by simp[Value.oneCell']) (by decide) rfl ?_;intro nb;refine w ?_;have cS:=GH (W:=W) (R:=Row a 94 cs::bz wp b (bA (m:Int) 1 ring)::al b F::Row g 36 (cv m c s)::R) nb 1 m zO zO;refine zr (s:=cS) (h:=?_);intro sb _;subst au;refine w ?_;obtain⟨X,hX⟩:∃X,X=Fz b m c s ring lazy ⟨sb,0,none⟩ m none (ik wp):=⟨_,rfl⟩;have bs:X.b=b:=by rw[hX]
 refine VO.aR (H':=Row a 94 X.cells::dz X::bz wp b (bA (m:Int) 1 ring)::al b F::Row g 36 (cv m c s)::R) (by subst hX;simp only[dz,aY.cells,j0];exact ae.re) ?_;refine zq ?_;refine ay.bP st_86 rfl rfl (by simp[Value.oneCell']) (by decide) rfl ?_;intro nb;refine w ?_;refine VC.loop (α:=Nat×Option Addr×Nat) (λy=>y.1<=m) (λy=>Sl.Own 3 1 (.slice y.2.1 (y.1+1) y.2.2) (y.1+1) (sg m y.1)::Row a 94 X.cells::dz X::bz wp b (bA (m:Int) 1 ring)::al b F::Row g 36 (cv m c s)::R) (λy=>[(0,ip b),(4,.bool lazy),(7,ip g),(10,ip a),(18,ip wp),(19,.slice y.2.1 (y.1+1:Nat) y.2.2),(124,ii m),(125,ii y.1)]) (λy=>m-y.1) rfl (0,ik nb,1) (c7 _) (λw' hw=>Holds.fS (spare:=[]) rfl (eI _) (by dsimp only;simp only[maxLen];omega) rfl (by exact hw)) ⟨rfl,rfl,rfl,rfl,rfl,rfl,rfl,rfl,trivial⟩ ?_;rintro⟨j,ao,cap⟩ hj;dsimp only at hj;refine w ?_;refine zk ?_ ?_<;>intro f
 ·
  have t:j<m:=by have:=cI f;omega
  clear f;refine w ?_;refine zq ?_;refine ay.bP st_86 rfl rfl (by simp[Value.oneCell']) (by decide) rfl ?_;intro nb;refine zq ?_;refine ay.cg st_86 rfl rfl zh zm rfl (by simp[Value.oneCell']) ?_ ?_ rfl ?_
  · simp only[maxLen];omega
  · omega
  intro so sc;refine w ?_;refine VE.round (j+1,so,sc) t (by dsimp only;omega) ⟨rfl,rfl,rfl,rfl,rfl,rfl,rfl,b7 rfl (by congr 1),trivial⟩ ?_;dsimp only;rw[JO];exact ae.re
 have cc:m=j:=by have:=dx f;omega
 clear f hj;subst cc;refine w ?_;refine VO.aR (H':=Sl.Own 3 1 (.slice ao (m+1) cap) (m+1) (sg m m)::Row a 94 X.cells::dz X::bz wp b (bA (m:Int) 1 ring)::al b F::Row g 36 (cv m c s)::R) ae.re ?_;refine VO.bH (λw hw=>hw.bn (.head _)) ?_;intro bw;obtain⟨oa,rfl⟩:∃x,ao=some x:=by cases ao with|none=>have:=bw rfl;omega|some x=>exact⟨x,rfl⟩
 obtain⟨M,V⟩:∃M,M=ez K1 m kj:=⟨_,rfl⟩;rw[<-V]at P;have av:∀q,q<=m->∃n,M (o4 m q)=some n/\0<n.last.length:=λq Q=>by
  rw[V];by_cases e:o4 m q=m
  · rw[e];exact⟨kj,eZ _ _ _,by omega⟩
  ·
   obtain⟨n,e1,l1,_⟩:=v.k (o4 m q) (by have:=BQ Q;omega);exact⟨n,(dH _ _ e).trans e1,by omega⟩
 have O:∀k,k<=m->(X.mL k).fit/\(X.mL k).enc.1=0/\(X.mL k).enc.2.length=128:=λk B=>by rw[hX];exact h.mL b _ _ _ _ k B (eI _)
 have bE:∀i,i<2->∃fg bnd,[jz a,fD b][i]?=some (.func (.func fg) bnd #[])/\(∀a w,(callFunc fg a).run Tryz.prog w= .ok (.enter fg a) w)/\
   ∀(R:List ab)(D':aw)(K':Kd)(c:Nat)(n:ak),Bq D' (m+1) K' c->c<=900000000->∀k:Nat,k<=m->K' k=some (kY (X.bytesOf k) i n)->0<n.last.length->aq W Tryz.prog fg (bnd.toList++[ii k]++[]) (Row a 94 X.cells::dz X::al b D'::R) (β:=aw) (λF=>Bq F (m+1) (ez K' k (kY (X.bytesOf k) (i+1) n)) (c+1)) (λ_=>i6 0) (λF=>Row a 94 X.cells::dz X::al b F::R):=λi C=>by
  rcases(show i=0\/i=1 by omega)with rfl|rfl
  ·
   refine⟨_,_,rfl,λ_ _=>by simp,λR D' K' c n Q f k B J T=>?_⟩;have:=CQ (W:=W) (R:=R) a X Q f k J T (O k B).1 (O k B).2.1 (O k B).2.2;rw[bs]at this;exact this
  ·
   refine⟨_,_,rfl,λ_ _=>by simp,λR D' K' c n Q f k B J T=>?_⟩;have h:=jY (W:=W) (R:=Row a 94 X.cells::dz X::R) b D' (k:Int);obtain⟨F,e2,P⟩:=Q.flush J;rw[e2]at h;exact fX ae.re (aq.mono h (λ_=>F) (λ_ _=>P.mono (Nat.le_succ c)) (λ_ _=>rfl) (λ_ _=>ae.re))
 refine VO.pure rfl rfl (af.cm rfl) rfl ?_;refine w ?_;refine VO.pure rfl rfl (af.cm rfl) rfl ?_;refine w ?_;refine zq ?_;refine ay.bP Sx rfl rfl (by simp[Value.oneCell']) (by decide) rfl ?_;intro nb;refine w ?_
 refine VC.loop (α:=Nat×aw) (λy=>y.1<=2/\Bq y.2 (m+1) (mD X m y.1 0 M) (c0+m*4096+y.1*17)) (λy=>Row nb 122 [jz a,fD b]::Sl.Own 3 1 (.slice (some oa) (m+1) cap) (m+1) (sg m m)::Row a 94 X.cells::dz X::bz wp b (bA (m:Int) 1 ring)::al b y.2::Row g 36 (cv m c s)::R)
  (λy=>[(0,ip b),(4,.bool lazy),(7,ip g),(10,ip a),(18,ip wp),(19,.slice (some oa) (m+1:Nat) cap),(137,.slice (ik nb) 2 2),(138,ii 2),(139,ii y.1)]) (λy=>2-y.1) rfl (0,F) ⟨c7 _,by rw[I1];exact P⟩ ae.re ⟨rfl,rfl,rfl,rfl,rfl,rfl,rfl,rfl,rfl,trivial⟩ ?_
 rintro⟨i,U⟩ ⟨C,A⟩;dsimp only at C A;have bh:∀u∈[jz a,fD b],u.oneCell'=true:=by simp[Value.oneCell']
 refine w ?_;refine zk ?_ ?_<;>intro f
 ·
  have t:i<2:=by have:=cI f;omega
  clear f;obtain⟨fg,bnd,hg,ca,ba⟩:=bE i t;have hv:[jz a,fD b][i]'(by simpa using t)= .func (.func fg) bnd #[]:=HF ((fL _).symm.trans hg);have hr1:aV W (Row nb 122 [jz a,fD b]::Sl.Own 3 1 (.slice (some oa) (m+1) cap) (m+1) (sg m m)::Row a 94 X.cells::dz X::bz wp b (bA (m:Int) 1 ring)::al b U::Row g 36 (cv m c s)::R) 1 (ik nb) 2 [jz a,fD b]:=aV.row bh (.head _) rfl;refine w ?_;rw[hv];refine w ?_
  refine VC.loop (α:=Nat×aw) (λy=>y.1<=m+1/\Bq y.2 (m+1) (mD X m i y.1 M) (c0+m*4096+i*17+y.1)) (λy=>Row nb 122 [jz a,fD b]::Sl.Own 3 1 (.slice (some oa) (m+1) cap) (m+1) (sg m m)::Row a 94 X.cells::dz X::bz wp b (bA (m:Int) 1 ring)::al b y.2::Row g 36 (cv m c s)::R)
   (λy=>[(0,ip b),(4,.bool lazy),(7,ip g),(10,ip a),(18,ip wp),(19,.slice (some oa) (m+1:Nat) cap),(22,.func (.func fg) bnd #[]),(137,.slice (ik nb) 2 2),(138,ii 2),(139,ii i),(143,.slice (some oa) (m+1:Nat) cap),(144,ii (m+1:Nat)),(145,ii y.1)]) (λy=>m+1-y.1) rfl (0,U) ⟨c7 _,A⟩ ae.re ⟨rfl,rfl,rfl,rfl,rfl,rfl,rfl,rfl,rfl,rfl,rfl,rfl,rfl,trivial⟩ ?_
  clear A hr1;rintro⟨q,U⟩ ⟨ck,A⟩;dsimp only at ck A;refine w ?_;refine zk ?_ ?_<;>intro f
  ·
   have bo:q<m+1:=by have:=cI f;omega
   clear f;have cw:=λH (m1:Sl.Own 3 1 (.slice (some oa) (m+1) cap) (m+1) (sg m m)∈H)=>(aV.own (W:=W) (MV m m) m1 (MU m m) (λq=>by cases q):aV W H 1 (some oa) (m+1) (sg m m));refine w ?_;refine VO.pure rfl rfl (af.rZ ah rfl rfl (cw _ zm) (MT bo)) rfl ?_;refine zw ?_;obtain⟨n,J,aa⟩:=av q zO;obtain⟨f1,f2⟩:=I0 X (j:=i) (K:=M) (show q<=m by omega) J;refine ay.gS rfl rfl ca (ba _ U _ _ n A zO (o4 m q) (BQ zO) f1 aa) ae.re rfl ?_;intro D4 bp;rw[<-f2]at bp;refine w ?_;exact VE.round (q+1,D4) ⟨bo,bp⟩ (by dsimp only;omega) ⟨rfl,rfl,rfl,rfl,rfl,rfl,rfl,rfl,rfl,rfl,rfl,rfl,b7 rfl (by congr 1),trivial⟩ ae.re
  have cr:q=m+1:=by have:=dx f;omega
  subst cr;rw[IZ]at A;clear f;refine w ?_;exact VE.round (i+1,U) ⟨t,A.mono (by dsimp only;omega)⟩ (by dsimp only;omega) ⟨rfl,rfl,rfl,rfl,rfl,rfl,rfl,rfl,b7 rfl (by congr 1),trivial⟩ ae.re
 have cb:i=2:=by have:=dx f;omega
 clear f;subst cb;refine w ?_;have ct:=HZ (W:=W) (R:=Sl.Own 3 1 (.slice (some oa) (m+1) cap) (m+1) (sg m m)::Row a 94 X.cells::dz X::bz wp b (bA (m:Int) 1 ring)::Row g 36 (cv m c s)::R) (D:=U) b hm I T A.len (ik wp) lazy;refine zr (s:=ct) (h:=?_);rintro⟨r,fa⟩-;refine w ?_;obtain⟨Y,hY⟩:∃Y,Y=Fz b m c s ring lazy ⟨sb,0,none⟩ m (ik r) (ik wp):=⟨_,rfl⟩;obtain⟨Z,G⟩:∃Z:eA,Z=⟨b,m,c,s,ik wp,lazy,fa,none,0,[],false⟩:=⟨_,rfl⟩;refine VO.aR (H':=Row a 94 Y.cells::dz Y::de r Z (List.replicate m (-1)) (bz wp b (bA (m:Int) 1 ring)::al b U::R)) (by rw[hY,G,hX];exact ae.re) ?_;have bf:Y.ok:=by rw[hY];exact⟨hm,I,T,j0,λx hx=>.inl (Og hx),c7 _⟩
 have bG:bU Y=List.replicate m (-1):=by rw[hY];unfold bU;rw[List.map_replicate];rfl
 refine zr (s:=rH a r Y bf Z (by rw[hY]) (by rw[G,hY]) (List.replicate m (-1)) (by rw[j0,hY])) (h:=?_);intro _ _;rw[bG];refine w ?_;have e3:∀i,i<=m->mD X m 2 0 M i=(M i).map (kY (X.bytesOf i) 2):=λi C=>by unfold mD;rw[lam C,aE (Nat.not_lt_zero _)]
 have br:mD X m 2 0 M m=some (kY (X.bytesOf m) 2 kj):=by rw[e3 m (eI _),V,eZ];rfl
 have ag:∀i,i<m->∃n,mD X m 2 0 M i=some (kY (X.bytesOf i) 2 n)/\n.last.length=1+rows/\∀a,a<1+rows->Sr n a dC:=λi C=>by
  obtain⟨n,e,l,z⟩:=v.k i C;exact⟨n,by rw[e3 i zO,V,dH _ _ (Nat.ne_of_lt C),e];rfl,l,z⟩
 have an:∀k row,k<m->row<rows->∃n,mD X m 2 0 M k=some n/\n.last.length=1+rows/\Sr n (1+row) dC:=λk row B S=>by
  obtain⟨n,e,l,z⟩:=ag k B;refine⟨_,e,by rw[qh];exact l,?_⟩;have:=z (row+1) zO;rw[BG 1 row];exact this.kY
 have dc:∀i:Nat,Y.bytesOf i=X.bytesOf i:=λi=>by rw[hY,hX];rfl
 refine VE.done ⟨a,r,wp,⟨sb,0,none⟩,m,⟨Z,U,mD X m 2 0 M,kY (X.bytesOf m) 2 kj,bA (m:Int) 1 ring,⟨[],0,none⟩,1,c0+m*4096+2*17⟩⟩ rfl ?_ rfl (by rw[hY,G];exact ae.re);have E:Z.m=m/\Z.c=c/\Z.s=s:=by rw[G];exact⟨rfl,rfl,rfl⟩
 refine⟨⟨⟨by rw[G];exact⟨hm,I,T⟩,by rw[G],⟨by dsimp only;rw[j0,E.1],λi j C hj g=>?_,λ_ _ _ _=>rfl,λ_ _=>AX _,λk row d g=>(by rw[G]at g;cases g),λk row B S _=>?_,λp hp=>(by rw[G]at hp;cases hp),by rw[G];exact c7 _⟩,λ_=>(by rw[G];exact⟨rfl,rfl⟩),by dsimp only;rw[E.1];exact br,by rw[G];rfl,DO l2 rfl (O m (eI _)).2.2,eI _,by dsimp only[bA];omega,by dsimp only[bA];omega,by rw[G];exact c7 _,λp hp=>(by rw[G]at hp;cases hp),λk row n B S _ e=>⟨λ_=>?_,λd g=>by cases g⟩,λp hp=>(TW hp).elim⟩,A⟩,eI _,by rw[G],by rw[G],rfl,rfl,rfl,by dsimp only;omega,λi C=>?_,λi C=>?_⟩
 ·
  exfalso;refine g ?_;rw[List.getD_eq_getElem?_getD,Oe];split<;>rfl
 ·
  dsimp only at B S;rw[E.1]at B;rw[E.2.1,E.2.2,<-L]at S⊢;obtain⟨n,e,l,z⟩:=an k row B S;exact⟨n,e,by omega,λ_=>z.look⟩
 ·
  dsimp only at B S e;rw[E.1]at B;rw[E.2.1,E.2.2,<-L]at S;obtain⟨ec,e',l,z⟩:=an k row B S;rw[e']at e;cases e;exact z
 ·
  obtain⟨n,e,l,_⟩:=ag i C;exact⟨_,e,by rw[qh,<-L];exact l⟩
 ·
  obtain⟨n,J,aa⟩:∃n,M i=some n/\0<n.last.length:=by
   by_cases g:i=m
   · have:=av 0 (c7 _);rw[g];exact this
   · have:=av (i+1) zO;exact this
  refine⟨kY (X.bytesOf i) 2 n,by dsimp only;rw[e3 i C,J];rfl,?_⟩;have:aY.bytesOf (CI.X b m c s ring lazy ⟨a,r,wp,⟨sb,0,none⟩,m,⟨Z,U,mD X m 2 0 M,kY (X.bytesOf m) 2 kj,bA (m:Int) 1 ring,⟨[],0,none⟩,1,c0+m*4096+2*17⟩⟩) i=X.bytesOf i:=by rw[hX];rfl
  rw[this];exact Sr.SA _ aa
end Go.Proofs.YtldolcbbmnmjoaaGreat
namespace Go.Sl
open Go Go.RowKit
section
variable{W:World}{P:Program}{n:Nat}{c:Code}{Q:Exit->Act->World->Prop}{H R:List ab}{f:Fr}{mv r:List Nat}{tl i x d e:Nat}{ty_:TypeId}{pos:String}{after:Array Edge}{guard:Option (Nat×Bool)}{X:Nat->ab}{vx:Nat->Value}
theorem VX.TA{J:Oper}{op:Op}{v:Value}(I:(aG c)[i]?=some {dst:=some e,op,type:=ty_,pos,after,guard})(z:Nat.beq i x=false)(G:mv.contains i=true)(F:gA (aG c) guard f=some true)
  (B:af W P n H f {dst:=some e,op,type:=ty_,pos,after,guard} v)(A:(aG c)[x]?=some J)(D:dG W P n J d X vx)(u:ae W H R)(E:Nat.blt e n=true)(m:look f d=none)(y:Nat.beq e d=false)(h:VX W P n c R mv tl x d X vx r Q H ((e,v)::f)):VX W P n c R mv tl x d X vx (i::r) Q H f:=by
 have p:i≠x:=by intro q;subst q;simp at z
 unfold VX at h;have second:∀b t w,bS n ((d,vx b)::f) t->Holds W (X b::H) w->fo P (aG c).toArray Q (Holds W R) mv tl (i::r.erase x) ⟨t,[]⟩ w:=by
  intro b t w j l;have g:=j.under m;refine .inl ⟨by unfold BK;rw[G];rfl,?_⟩;unfold wpOp;simp only[List.getElem?_toArray,I];rw[lam (g.wanted (o:={dst:=some e,op,type:=ty_,pos,after,guard}) F)];have C:af W P n (X b::H) ((d,vx b)::f) {dst:=some e,op,type:=ty_,pos,after,guard} v:=by unfold af at B⊢;exact λt w j l=>B t w (j.under m) l.tail
  have:=ay.pure (Q:=eF Q) (N:=λH' k=>H'=X b::H/\k=(e,v)::(d,vx b)::f) C E ⟨rfl,rfl⟩;unfold ay at this;refine .inl (this t w j l _ ?_);rintro H' k ⟨rfl,rfl⟩ t' s g a;exact⟨λ_=>u _ a.tail,h.2 b t' s (g.swap y) a⟩
 unfold VX;refine⟨λt w j l=>.inr (.inl ⟨p,G,?_,?_⟩),λb t w j l=>by rw[List.erase_cons_tail (by simpa using p)];exact second b t w j l⟩
 ·
  unfold wpOp;simp only[List.getElem?_toArray,I];rw[lam (j.wanted (o:={dst:=some e,op,type:=ty_,pos,after,guard}) F)];have:=ay.pure (Q:=eF Q) (N:=λH' k=>H'=H/\k=(e,v)::f) B E ⟨rfl,rfl⟩;unfold ay at this;refine .inl (this t w j l _ ?_);rintro H' k ⟨rfl,rfl⟩ t' s g a;exact⟨u _ a,h.1 t' s g a⟩
 ·
  unfold wpOp;simp only[List.getElem?_toArray,A];rw[lam (by unfold Region.wanted;rw[D.guard])];have:=D.run (eF Q) H f (λH' k=>∃b,H'=X b::H/\k=(d,vx b)::f) (λb=>⟨b,rfl,rfl⟩);unfold ay at this;refine .inl (this t w j l _ ?_);rintro H' k ⟨b,rfl,rfl⟩ t' s g a;exact⟨u _ a.tail,second b t' s g a⟩
end
end Go.Sl
namespace Go.Proofs.YtldolcbbmnmjoaaGreat
open Go.RowKit Go.Sl
attribute [local irreducible] Sl.Own
structure qJ where
  b:Nat
  a:Option Addr
  rows:Nat
  m:Nat
  c:Nat
  s:Nat
abbrev qJ.cells(X:qJ):List Value:=[ip X.b,.pointer X.a,ii X.rows,ii X.m,ii X.c,ii X.s]
abbrev cn(e:Int)(d:Value)(o:Int):List Value:=[i6 e,d,ii o]
abbrev dh:Value:= .slice none 0 0
structure mz where
  kind:UInt8
  slot:Int
  n:Int
  block:Int
  po:Option Addr
  pl:Nat
  pc:Nat
  ko:Option Addr
  kl:Nat
  kc:Nat
abbrev mz.cells(A:mz):List Value:=[ib (A.kind.toNat:Int),ii A.slot,ii A.n,ii A.block,.slice A.po A.pl A.pc,.slice A.ko A.kl A.kc]
section
variable{W:World}{R H:List ab}
theorem pR(e:Nat):az W Tryz.prog 18 [i6 e] R (.agg (cn e dh 0).toArray) R:=by
 refine ze Tryz.func18 Tryz.ntmps18 ?_;refine zq ?_;refine ay.aB xZ rfl ?_;intro a;refine w ?_;refine VO.pure rfl rfl (af.build xZ rfl (show aC _ _ _=some (cn e dh 0)by simp[aC,bR,Value.cells])) rfl ?_;refine zS (cn e dh 0) ?_;exact VE.results1 (.inl rfl) () rfl (aL.agg (vs:=cn e dh 0) ah rfl rfl zm rfl rfl) trivial rfl (ae.drop ae.refl)
abbrev GY(f:FuncId)(a:Bool):Value:= .agg #[.func (.func f) #[] #[],.bool a]
theorem sL:jB Tryz.prog 5 UInt8 (λc=>ib (c.toNat:Int)) (λ_=>True):=jB.u8 (by kernel_rfl)
theorem lF:bM Tryz.prog 78 [.nilFunc,.bool false] [(0,1),(1,1)]:=⟨λw=>by simp,_,Tryz.underlying78,λw=>by simp⟩
theorem KL:Tryz.prog.underlying 80=some (.map 5 78):=by kernel_rfl
def SU:List (UInt8×Value):=[(1,GY 27 true),(2,GY 28 true),(3,GY 29 true),(4,GY 30 false),(5,GY 31 true),(6,GY 32 true),(7,GY 33 false),(8,GY 34 false),(9,GY 35 false),(10,GY 36 false),(11,GY 37 false),(12,GY 38 true)]
theorem Qi:aq W Tryz.prog 17 [] R (β:=Nat) (λ_=>True) (λb=>.map (some b)) (λb=>db (λc:UInt8=>Value.int .u8 (c.toNat:Int)) (λ_=>True) b SU::R):=by
 refine ze Tryz.func17 Tryz.ntmps17 ?_;refine zq ?_;refine ay.lA (λc:UInt8=>Value.int .u8 (c.toNat:Int)) (λ_=>True) rfl ?_;intro a;refine w ?_;refine VO.pure rfl rfl (af.build lF rfl (show aC _ _ _=some [.func (.func 27) #[] #[],.bool true]by simp[aC,bR,Value.cells])) rfl ?_;refine zq ?_;refine ay.dR (k:=(1:UInt8)) KL sL trivial rfl rfl rfl zh ?_;refine w ?_;refine VO.pure rfl rfl (af.build lF rfl (show aC _ _ _=some [.func (.func 28) #[] #[],.bool true]by simp[aC,bR,Value.cells])) rfl ?_;refine zq ?_;refine ay.dR (k:=(2:UInt8)) KL sL trivial rfl rfl rfl zh ?_;refine w ?_;refine VO.pure rfl rfl (af.build lF rfl (show aC _ _ _=some [.func (.func 29) #[] #[],.bool true]by simp[aC,bR,Value.cells])) rfl ?_;refine zq ?_;refine ay.dR (k:=(3:UInt8)) KL sL trivial rfl rfl rfl zh ?_;refine w ?_;refine VO.pure rfl rfl (af.build lF rfl (show aC _ _ _=some [.func (.func 30) #[] #[],.bool false]by simp[aC,bR,Value.cells])) rfl ?_;refine zq ?_;refine ay.dR (k:=(4:UInt8)) KL sL trivial rfl rfl rfl zh ?_;refine w ?_;refine VO.pure rfl rfl (af.build lF rfl (show aC _ _ _=some [.func (.func 31) #[] #[],.bool true]by simp[aC,bR,Value.cells])) rfl ?_;refine zq ?_;refine ay.dR (k:=(5:UInt8)) KL sL trivial rfl rfl rfl zh ?_;refine w ?_;refine VO.pure rfl rfl (af.build lF rfl (show aC _ _ _=some [.func (.func 32) #[] #[],.bool true]by simp[aC,bR,Value.cells])) rfl ?_;refine zq ?_;refine ay.dR (k:=(6:UInt8)) KL sL trivial rfl rfl rfl zh ?_;refine w ?_;refine VO.pure rfl rfl (af.build lF rfl (show aC _ _ _=some [.func (.func 33) #[] #[],.bool false]by simp[aC,bR,Value.cells])) rfl ?_;refine zq ?_;refine ay.dR (k:=(7:UInt8)) KL sL trivial rfl rfl rfl zh ?_;refine w ?_;refine VO.pure rfl rfl (af.build lF rfl (show aC _ _ _=some [.func (.func 34) #[] #[],.bool false]by simp[aC,bR,Value.cells])) rfl ?_;refine zq ?_;refine ay.dR (k:=(8:UInt8)) KL sL trivial rfl rfl rfl zh ?_;refine w ?_;refine VO.pure rfl rfl (af.build lF rfl (show aC _ _ _=some [.func (.func 35) #[] #[],.bool false]by simp[aC,bR,Value.cells])) rfl ?_;refine zq ?_;refine ay.dR (k:=(9:UInt8)) KL sL trivial rfl rfl rfl zh ?_;refine w ?_;refine VO.pure rfl rfl (af.build lF rfl (show aC _ _ _=some [.func (.func 36) #[] #[],.bool false]by simp[aC,bR,Value.cells])) rfl ?_;refine zq ?_;refine ay.dR (k:=(10:UInt8)) KL sL trivial rfl rfl rfl zh ?_;refine w ?_;refine VO.pure rfl rfl (af.build lF rfl (show aC _ _ _=some [.func (.func 37) #[] #[],.bool false]by simp[aC,bR,Value.cells])) rfl ?_;refine zq ?_;refine ay.dR (k:=(11:UInt8)) KL sL trivial rfl rfl rfl zh ?_;refine w ?_;refine VO.pure rfl rfl (af.build lF rfl (show aC _ _ _=some [.func (.func 38) #[] #[],.bool true]by simp[aC,bR,Value.cells])) rfl ?_;refine zq ?_;refine ay.dR (k:=(12:UInt8)) KL sL trivial rfl rfl rfl zh ?_;refine w ?_;exact VE.done a rfl trivial rfl ae.re
abbrev eE(n:Nat):Value:=ip n
theorem zE(p r:Nat)(X:qJ)(D:aw):az W Tryz.prog 39 [eE p] (Row p 37 [eE r]::Row r 72 X.cells::al X.b D::R) (ii (SD D.n)) (Row p 37 [eE r]::Row r 72 X.cells::al X.b D::R):=by
 (refine aq.enter Tryz.func39 Tryz.ntmps39 rfl rfl ?_);refine zr (s:=Bf X.b D) (h:=?_);intro _ _;refine zw ?_;refine ay.aB sb_98 rfl ?_;intro a;refine zS ([ii D.n.r,ii D.n.w,ii D.n.f]) ?_;exact VE.ax rfl rfl ae.re
abbrev qJ.arr(X:qJ)(a:Option Addr):qJ:={X with a:=a}
abbrev oD(W:World)(f:FuncId)(r:Nat)(X:qJ)(A:mz)(D:aw)(S:ab){β:Type}(Ac:β->Prop)(e:β->Nat)(v:β->Value)(a:β->Option Addr)(D':β->aw)(T:β->ab):Prop:=
  ∀R,aq W Tryz.prog f [eE r,.agg A.cells.toArray] (Row r 72 X.cells::al X.b D::S::R) Ac (λy=>.agg (cn (e y) (v y) 0).toArray) (λy=>Row r 72 (X.arr (a y)).cells::al X.b (D' y)::T y::R)
abbrev eU(D D':aw):Int:=IntKind.i64.wrap (SD D'.n-SD D.n)
abbrev SO(f:FuncId)(cap:Array Value):Value:= .func (.func f) #[] cap
theorem cL{e:Int}{v:Value}{o:Int}(h:v.oneCell'=true):∀u∈cn e v o,u.oneCell'=true:=by
 intro u a;simp only[cn,List.mem_cons,TW,or_false]at a;rcases a with rfl|rfl|rfl
 · rfl
 · exact h
 · rfl
theorem IW{f:FuncId}{r:Nat}{X:qJ}{A:mz}{D:aw}{S:ab}{β:Type}{Ac:β->Prop}{e:β->Nat}{v:β->Value}{a:β->Option Addr}{D':β->aw}{T:β->ab}(j h g:Nat)(l:∀a w,(callFunc f a).run Tryz.prog w= .ok (.enter f a) w)(k:∀y,(v y).oneCell'=true)(spec:oD W f r X A D S Ac e v a D' T):
  aq W Tryz.prog 41 [.agg A.cells.toArray,eE j,eE h,eE g] (Row j 62 [SO 39 #[eE g]]::Row h 76 [SO f #[]]::Row g 37 [eE r]::Row r 72 X.cells::al X.b D::S::R) Ac (λy=>.agg (cn (e y) (v y) (eU D (D' y))).toArray)
   (λy=>Row r 72 (X.arr (a y)).cells::al X.b (D' y)::T y::R):=by
 refine ze Tryz.func41 Tryz.ntmps41 ?_;refine zj λ_=>?_;refine zw ?_;refine ay.aB xZ rfl ?_;intro n5;refine zw ?_;refine ay.gS rfl rfl (λ_ _=>by simp) (zE g r X D) ae.re rfl ?_;intro _ _;refine zw ?_;refine ay.gS rfl rfl l (spec _) ae.re rfl ?_;intro y m;refine zw ?_;refine ay.aB xZ rfl ?_;intro n7;refine zw ?_;have b:=k y;refine ay.gL (vs:=cn (e y) (v y) 0) ah rfl rfl rfl rfl (cL b) zh (by simp) ?_;refine zw ?_;refine ay.gS rfl rfl (λ_ _=>by simp) (zE g r (X.arr (a y)) (D' y)) ae.re rfl ?_;intro _ _;refine zl (cn (e y) (v y) (eU D (D' y))) (cL b) ?_;exact VE.results1 (.inl rfl) y rfl (aL.agg (vs:=cn (e y) (v y) (eU D (D' y))) ah rfl rfl zm rfl rfl) m rfl ae.re
abbrev T7(f:FuncId)(r:Nat)(z:Nat×Nat×Nat)(R:List ab):List ab:=Row z.1 62 [SO 39 #[eE z.2.2]]::Row z.2.1 76 [SO f #[]]::Row z.2.2 37 [eE r]::R
theorem Fy(f:FuncId)(r:Nat):aq W Tryz.prog 19 [eE r,SO f #[]] R (β:=Nat×Nat×Nat) (λ_=>True) (λz=>SO 41 #[eE z.1,eE z.2.1,eE z.2.2]) (λz=>T7 f r z R):=by
 refine ze Tryz.func19 Tryz.ntmps19 ?_;refine zj λ_=>?_;refine w ?_;refine zj λ_=>?_;refine w ?_;rename_i a b;refine VO.pure rfl rfl (af.bB rfl) rfl ?_;refine w ?_;refine zq ?_;refine ay.alloc (z:= .nilFunc) (λw=>by simp) rfl rfl ?_;intro n5;refine w ?_;refine VO.pure rfl rfl (af.bB rfl) rfl ?_;refine w ?_;exact VE.done (n5,b,a) rfl trivial rfl ae.re
theorem Ji(k:UInt8)(f:FuncId)(b:Bool)(h:getD SU k=some (GY f b)):(getD SU k).getD (.agg #[.nilFunc,.bool false])=GY f b/\(getD SU k).isSome=true:=by rw[h];exact⟨rfl,rfl⟩
theorem uq{f:FuncId}{ar:Bool}{r:Nat}{X:qJ}{A:mz}{D:aw}{S:ab}{β:Type}{Ac:β->Prop}{e:β->Nat}{v:β->Value}{a:β->Option Addr}{D':β->aw}{T:β->ab}(u:getD SU A.kind=some (GY f ar))(q:ar=true->X.a.isSome=true)(t:∀a w,(callFunc f a).run Tryz.prog w= .ok (.enter f a) w)(o:∀y,(v y).oneCell'=true)(spec:oD W f r X A D S Ac e v a D' T):
  aq W Tryz.prog 10 [eE r,.agg A.cells.toArray] (Row r 72 X.cells::al X.b D::S::R) Ac (λy=>.agg (cn (e y) (v y) (eU D (D' y))).toArray) (λy=>Row r 72 (X.arr (a y)).cells::al X.b (D' y)::T y::R):=by
 refine ze Tryz.func10 Tryz.ntmps10 ?_;refine zj λ_=>?_;refine w ?_;rename_i m;refine zq ?_;refine ay.aB xZ rfl ?_;intro g;refine w ?_;obtain⟨z1,z2⟩:=Ji A.kind f ar u;refine VC.join (α:=Nat) (λ_=>True) (λn5=>Row n5 78 [.func (.func f) #[] #[],.bool ar]::Row g 55 (cn 0 dh 0)::Row m 58 A.cells::Row r 72 X.cells::al X.b D::S::R) (λn5=>[(0,eE r),(3,eE m),(4,eE g),(5,eE n5),(6,.bool true)]) ?_ ?_
 ·
  intro I C;refine VC.qO [0,3,7,8] 9 7 [1,2,0,3,4,5,6,7,8,9] _ 5 (λb=>Row b 78 [.nilFunc,.bool false]) (λb=>eE b) rfl (by kernel_rfl) (by kernel_rfl) ae.refl ?_;(repeat (apply VX.take rfl rfl rfl rfl;exact zp;rfl;rfl;rfl));refine VX.uk (K:=Row g 55 (cn 0 dh 0)) (S:=λp:Nat=>[db (λc:UInt8=>Value.int .u8 (c.toNat:Int)) (λ_=>True) p SU,Row g 55 (cn 0 dh 0)]) (H':=Row m 58 A.cells::Row r 72 X.cells::al X.b D::S::R) rfl rfl rfl rfl rfl rfl (λ_ _=>by simp) (λR=>Qi) (by(repeat exact .refl)) rfl (dG.alloc lF rfl) ae.re (λ_ _=>ae.re) rfl rfl rfl ?_;intro p _;refine VX.TA rfl rfl rfl rfl (af.DR (k:=A.kind) (z:= .agg #[.nilFunc,.bool false]) KL sL trivial (λw=>by simp) rfl rfl (.head _)) rfl (dG.alloc lF rfl) ae.re rfl rfl rfl ?_;rw[z1,z2];(repeat (apply VX.take rfl rfl rfl rfl;exact zp;rfl;rfl;rfl));refine VX.float rfl rfl (dG.alloc lF rfl) ae.re ?_;intro n5;refine zw ?_;refine ay.gL (vs:=[.func (.func f) #[] #[],.bool ar]) ah rfl rfl rfl rfl (by simp[Value.oneCell']) zh (by simp) ?_;refine⟨ae.re,?_⟩;refine w ?_;exact C.to n5 trivial ⟨rfl,rfl,rfl,rfl,rfl,trivial⟩ ae.re
 intro n5 _;cases l:ar
 case' true=>
  obtain⟨a0,j⟩:=Option.isSome_iff_exists.1 (q l);refine w ?_;refine VC.aK rfl rfl (by rw[j];rfl) ?_;refine w ?_
 case' false=>(refine w ?_)
 all_goals
  refine zx [3] 5 [0,1,2,4,3,5,6] _ ?_;refine zr (s:=Fy f r) (h:=?_);rintro⟨F,G,E⟩-;refine⟨ae.re,?_⟩;refine zw ?_;refine ay.gS rfl rfl (λ_ _=>by simp) (IW F G E t o spec) ae.re rfl ?_;intro y B;refine zl (cn (e y) (v y) (eU D (D' y))) (cL (o y)) ?_;exact VE.results1 (.inl rfl) y rfl (aL.agg (vs:=cn (e y) (v y) (eU D (D' y))) ah rfl rfl zm rfl rfl) B rfl ae.re
end
end Go.Proofs.YtldolcbbmnmjoaaGreat
namespace Go.Proofs.YtldolcbbmnmjoaaGreat
open Go.RowKit Go.Sl
attribute [local irreducible] Sl.Own
section
variable{W:World}{R:List ab}{r:Nat}{X:qJ}{A:mz}{D:aw}{S:ab}{β:Type}{Ac:β->Prop}{e:β->Nat}{v:β->Value}{D':β->aw}{T:β->ab}
abbrev iP(W:World)(f:FuncId)(args:List Value)(b:Nat)(D:aw)(S:ab){β:Type}(Ac:β->Prop)(a:β->Value)(D':β->aw)(T:β->ab):Prop:=
  ∀R,aq W Tryz.prog f args (al b D::S::R) Ac a (λy=>al b (D' y)::T y::R)
theorem Gs(h:iP W 59 [.pointer X.a] X.b D S Ac (λy=>i6 (e y)) D' T):oD W 29 r X A D S Ac e (λ_=>dh) (λ_=>X.a) D' T:=by
 intro R;refine ze Tryz.func29 Tryz.ntmps29 ?_;refine zj λ_=>?_;refine w ?_;rename_i c;refine zq ?_;refine ay.aB xZ rfl ?_;intro b;refine zr (s:=h _) (h:=?_);intro y a;refine zr (s:=pR (e y)) (h:=?_);intro _ _;refine zl (cn (e y) dh 0) (cL rfl) ?_;exact VE.results1 (.inl rfl) y rfl (aL.agg (vs:=cn (e y) dh 0) ah rfl rfl zm rfl rfl) a rfl ae.re
theorem Gu(h:iP W 58 [.pointer X.a,.slice A.po A.pl A.pc] X.b D S Ac (λy=>i6 (e y)) D' T):oD W 28 r X A D S Ac e (λ_=>dh) (λ_=>X.a) D' T:=by
 intro R;refine ze Tryz.func28 Tryz.ntmps28 ?_;refine zj λ_=>?_;refine w ?_;rename_i c;refine zq ?_;refine ay.aB xZ rfl ?_;intro b;refine w ?_;refine zx [] 6 [0,1,2,3,4,5,6,7,8] _ ?_;refine zr (s:=h _) (h:=?_);intro y a;refine zr (s:=pR (e y)) (h:=?_);intro _ _;refine zl (cn (e y) dh 0) (cL rfl) ?_;exact VE.results1 (.inl rfl) y rfl (aL.agg (vs:=cn (e y) dh 0) ah rfl rfl zm rfl rfl) a rfl ae.re
theorem J3{o:β->Value}(a:∀y,(v y).oneCell'=true)(h:iP W 57 [.pointer X.a,ii A.block,ii A.n] X.b D S Ac (λy=>.tuple #[v y,i6 (e y)]) D' T):oD W 27 r X A D S Ac e v (λ_=>X.a) D' T:=by
 intro R;refine ze Tryz.func27 Tryz.ntmps27 ?_;refine zj λ_=>?_;refine w ?_;rename_i d;refine zq ?_;refine ay.aB xZ rfl ?_;intro c;refine w ?_;refine zx [8] 13 [0,1,2,3,4,5,6,7,8,9,10,11,12,13] (Row c 55 (cn 0 dh 0)::Row d 58 A.cells::Row r 72 X.cells::R) ?_;refine zr (s:=h _) (h:=?_);intro y b;refine⟨ae.re,?_⟩;refine w ?_;refine VO.pure rfl rfl (af.build xZ rfl (show aC _ _ _=some (cn (e y) (v y) 0)by simp[aC,bR,cells_one (a y),show ∀i:Int,(Value.int .u16 i).cells=#[i6 i]from λ_=>rfl])) rfl ?_;refine zl (cn (e y) (v y) 0) (cL (a y)) ?_;exact VE.results1 (.inl rfl) y rfl (aL.agg (vs:=cn (e y) (v y) 0) ah rfl rfl zm rfl rfl) b rfl ae.re
theorem J2{a0:Addr}(a:X.a=some a0)(h:iP W 61 [.pointer X.a,ii A.slot] X.b D S Ac (λy=>i6 (e y)) D' T):oD W 30 r X A D S Ac e (λ_=>dh) (λ_=>X.a) D' T:=by
 intro R;refine ze Tryz.func30 Tryz.ntmps30 ?_;refine zj λ_=>?_;refine w ?_;rename_i d;refine zq ?_;refine ay.aB xZ rfl ?_;intro c;refine w ?_;refine VC.aK rfl rfl (by rw[a];rfl) ?_;refine w ?_;refine zx [] 6 [0,1,2,3,4,5,6,7,8] _ ?_;refine zr (s:=h _) (h:=?_);intro y b;refine zr (s:=pR (e y)) (h:=?_);intro _ _;refine zl (cn (e y) dh 0) (cL rfl) ?_;exact VE.results1 (.inl rfl) y rfl (aL.agg (vs:=cn (e y) dh 0) ah rfl rfl zm rfl rfl) b rfl ae.re
theorem Nh{kl:List fI}{a:β->Addr}(d:∀R,oy W R A.ko kl)(c:kl.length=A.kl)(g:A.n<=0)(h:∀R,aq W Tryz.prog 70 [ip X.b] (al X.b (D.cut (kl.map fI.l))::R) Ac (λy=>.tuple #[.pointer (some (a y)),i6 0]) (λy=>al X.b (D' y)::T y::R)):oD W 35 r X A D S Ac (λ_=>0) (λ_=>dh) (λy=>some (a y)) D' T:=by
 intro R;have b:=λR=>IH (W:=W) (R:=R) (cap:=A.kc) X.b D (d R);rw[c]at b;refine ze Tryz.func35 Tryz.ntmps35 ?_;refine zj λ_=>?_;refine w ?_;rename_i j;refine zq ?_;refine ay.aB xZ rfl ?_;intro i;refine w ?_;refine zx [] 6 [0,1,2,3,4,5,6] _ ?_;refine zr (s:=b _) (h:=?_);intro _ _;refine w ?_;refine VC.aK rfl rfl (gx zO) ?_;refine zr (s:=h _) (h:=?_);intro y f;refine zr (s:=pR 0) (h:=?_);intro _ _;refine zl (cn (0:Nat) dh 0) (cL rfl) ?_;exact VE.results1 (.inl rfl) y rfl (aL.agg (vs:=cn (0:Nat) dh 0) ah rfl rfl zm rfl rfl) f rfl ae.re
end
end Go.Proofs.YtldolcbbmnmjoaaGreat
namespace Go.Proofs.YtldolcbbmnmjoaaGreat
open Go.RowKit Go.Sl
attribute [local irreducible] Sl.Own
section
variable{W:World}{R:List ab}{r:Nat}{X:qJ}{A:mz}{D:aw}{S:ab}{β β1:Type}{Ac:β->Prop}{Ac1:β1->Prop}{e:β->Nat}{v:β->Value}{D':β->aw}{T:β->ab}{D1 D2:β1->aw}{S1:β1->ab}
theorem Er{a0:Addr}(a:X.a=some a0){sd:β->ai}{p u:Nat}(h:∀R,aq W Tryz.prog 16 [.pointer X.a] (S::R) Ac (λy=>.agg (lP (sd y) false p u).toArray) (λy=>T y::R)):
  aq W Tryz.prog 8 [eE r] (Row r 72 X.cells::S::R) Ac (λy=>.tuple #[.agg (lP (sd y) false p u).toArray,.bool true]) (λy=>Row r 72 X.cells::T y::R):=by
 refine ze Tryz.func8 Tryz.ntmps8 ?_;refine zq ?_;refine ay.aB mM rfl ?_;intro c;refine w ?_;refine VC.aK rfl rfl (by rw[a];rfl) ?_;refine zr (s:=h _) (h:=?_);intro y b;refine zS (lP (sd y) false p u) ?_;exact VE.results2 (.inl rfl) y rfl (aL.agg (vs:=lP (sd y) false p u) ah rfl rfl zm rfl rfl) (.tmp rfl) b rfl ae.re
end
end Go.Proofs.YtldolcbbmnmjoaaGreat
namespace Go.Proofs.YtldolcbbmnmjoaaGreat
open Go.RowKit Go.Sl
attribute [local irreducible] Sl.Own
abbrev Oj(m n i:Nat):List Int:=List.replicate i (n:Int)++List.replicate (m+1-i) 0
abbrev CG(m n z:Nat):List Int:=List.replicate m (n:Int)++[(z:Int)]
structure QW where
  r:Nat
  b:Nat
  z:CI
abbrev QW.X(m c s:Nat)(y:QW):qJ:=⟨y.b,ik y.z.a,s*c,m,c,s⟩
theorem Qa{m n i:Nat}(h:i<m+1):(Oj m n i).set i (n:Int)=Oj m n (i+1):=by
 unfold Oj;rw[KR _ _ (by rw[j0];exact eI _),j0,E7,show m+1-i=(m+1-(i+1))+1 by omega,List.replicate_succ,List.set_cons_zero,List.replicate_succ',lx];rfl
theorem NP(m n z:Nat):(Oj m n (m+1)).set m (z:Int)=CG m n z:=by
 unfold Oj;rw[E7,List.replicate_zero,mn,List.replicate_succ',KR _ _ (by rw[j0];exact eI _),j0,E7];rfl
theorem Ib{m n i:Nat}(h:i<=m+1):(Oj m n i).length=m+1:=by unfold Oj;rw[c9,j0,j0];omega
theorem Ni{W:World}{R:List ab}{m c s ring:Nat}{lazy:Bool}{K:Kd}(h:QR m c s ring lazy K)(B:Bq (aw.new (CG m (1+s*c) (2+ring))) (m+1) K 0)(v:IG (CG m (1+s*c) (2+ring))=0):
  aq W Tryz.prog 14 [.agg (cv m c s).toArray,ii ring,.bool lazy] R (β:=QW) (λy=>KY y.b m c s ring 0 lazy y.z) (λy=>.tuple #[eE y.r,i6 0]) (λy=>Row y.r 72 (y.X m c s).cells::Row y.z.a 94 (y.z.X y.b m c s ring lazy).cells::dz (y.z.X y.b m c s ring lazy)::sF y.z.t y.z.r y.z.w (List.replicate m (-1)) R):=by
 have A:=h.hm;have n:=h.hc;have u:=h.hs;have F:=h.hr;have e:s*c<=256*16:=RC u.2 n.2;refine ze Tryz.func14 Tryz.ntmps14 ?_;refine zj λ_=>?_;refine w ?_;rename_i g;refine zt (s:=jH ⟨m,c,s⟩) (h:=?_);intro _ _;rw[lam ⟨⟨by dsimp only;omega,by dsimp only;omega⟩,⟨by dsimp only;omega,by dsimp only;omega⟩,by dsimp only;omega,by dsimp only;omega⟩];refine w ?_;refine VO.gF rfl rfl rfl (gx zO) ?_;refine w ?_;refine VC.aK rfl rfl (gx zO) ?_;refine w ?_;refine zx [1] 3 [0,2,1,3,4,5] _ ?_;refine zt (s:=gn A n u) (h:=?_);intro _ _;refine⟨ae.re,?_⟩;refine VD.end rfl rfl rfl (ay.pure (af.build UT rfl (show aC _ _ _=some [.pointer none,.pointer none,ii (s*c:Nat),ii m,ii c,ii s]by simp[aC,bR,Value.cells])) rfl ?_);refine w ?_;refine zj λ_=>?_;refine w ?_;rename_i r;obtain⟨rows,f⟩:∃rows,rows=s*c:=⟨_,rfl⟩;rw[<-f];have C:rows<=4096:=by rw[f];exact e
 refine VO.re 30 (ii ((m+1:Nat):Int)) rfl (by congr 1) ?_;refine zq ?_;refine ay.dd st_86 rfl rfl rfl ?_ ?_ rfl ?_
 · omega
 · simp only[maxLen];omega
 intro nb;refine w ?_;have a:∀(fr:List Int)(k:Nat)(z:Int),(j8 fr).set k (ii z)=j8 (fr.set k z):=λfr k z=>by unfold j8;rw[List.map_set]
 refine VC.loop (α:=Nat) (λi=>i<=m+1) (λi=>Sl.Own 3 1 (.slice (ik nb) (m+1) (m+1)) (m+1) (j8 (Oj m (1+rows) i))::Row r 72 [.pointer none,.pointer none,ii rows,ii m,ii c,ii s]::Row g 36 (cv m c s)::R) (λi=>[(1,ii ring),(2,.bool lazy),(3,eE g),(9,eE r),(10,.slice (ik nb) (m+1:Nat) (m+1:Nat)),(33,ii (m+1:Nat)),(34,ii i)]) (λi=>m+1-i) rfl 0 (c7 _) (by rw[show j8 (Oj m (1+rows) 0)=List.replicate (m+1) (ii 0)by unfold Oj j8;simp];exact ae.re) ⟨rfl,rfl,rfl,rfl,rfl,rfl,rfl,trivial⟩ ?_;intro i t;refine w ?_;refine zk ?_ ?_<;>intro p
 ·
  have o:i<m+1:=by have:=cI p;omega
  clear p;refine w ?_;refine VO.re 43 (ii ((1+rows:Nat):Int)) rfl (by congr 1) ?_;refine zq ?_;refine ay.EJ ah rfl rfl rfl rfl zh (by unfold j8;rw[ew,Ib t];omega) ?_;rw[a,Qa o];refine w ?_;exact VE.round (i+1) o zO ⟨rfl,rfl,rfl,rfl,rfl,rfl,b7 rfl (by congr 1),trivial⟩ ae.re
 have q:i=m+1:=by have:=dx p;omega
 clear p t;subst q;refine w ?_;refine VO.re 50 (ii ((2+ring:Nat):Int)) rfl (by congr 1) ?_;refine zq ?_;refine ay.EJ ah rfl rfl rfl rfl zh (by unfold j8;rw[ew,Ib (eI _)];omega) ?_;rw[a,NP,f];have d:(CG m (1+s*c) (2+ring)).length=m+1:=by unfold CG;rw[c9,j0];rfl
 have j:=II (W:=W) (R:=Sl.Own 3 1 (.slice (ik nb) (m+1) (m+1)) (m+1) (j8 (CG m (1+s*c) (2+ring)))::Row r 72 [.pointer none,.pointer none,ii (s*c:Nat),ii m,ii c,ii s]::Row g 36 (cv m c s)::R) (cap:=m+1) (ao:=ik nb) (l:=CG m (1+s*c) (2+ring)) (by rw[d];exact aV.own (DF _) (.head _) (by show(List.map _ _).length=_;rw[ew,d];omega) (by simp)) zO;rw[v,d]at j;refine zr (s:=j) (h:=?_);intro x D;obtain⟨b,rfl⟩:∃b,x=some b:=Option.isSome_iff_exists.1 (by rw[D];rfl);refine w ?_;refine VC.aR (H':=al b (aw.new (CG m (1+s*c) (2+ring)))::Row r 72 [eE b,.pointer none,ii (s*c:Nat),ii m,ii c,ii s]::Row g 36 (cv m c s)::R) ae.re ?_;refine VC.Bm (Mz (Row r 72 [eE b,.pointer none,ii (s*c:Nat),ii m,ii c,ii s]) (Row g 36 (cv m c s)::R)) [8,14] [(14,1)] [(4,0)] 1 [0,1,2,3,4,5,6,7,8,9,10,11,12,13,14] rfl (by kernel_rfl) (by kernel_rfl) ae.re (tj _ _) ?_;(iterate 4 (apply VL.take rfl rfl rfl 1 rfl;exact zp;rfl));apply VL.take rfl rfl rfl 0 rfl;exact zp;rfl;(iterate 3 (apply VL.take rfl rfl rfl 1 rfl;exact zp;rfl));refine VL.yC rfl rfl rfl 0 rfl ?_;refine zd rfl rfl (I2 (R:=Row r 72 [eE b,.pointer none,ii (s*c:Nat),ii m,ii c,ii s]::Row g 36 (cv m c s)::R) b h B (by decide)) ?_;intro z E;refine⟨ae.re,?_⟩;(iterate 5 (apply VL.take rfl rfl rfl 1 rfl;exact zp;rfl));refine VL.yC rfl rfl rfl 1 rfl ?_;apply ay.st ah rfl rfl rfl rfl (by(repeat first|exact .head|apply eQ.tail);done) (by(simp;done));refine⟨ae.re,?_⟩;refine VL.nil ?_;refine w ?_;exact VE.done ⟨r,b,z⟩ rfl E rfl ae.re
end Go.Proofs.YtldolcbbmnmjoaaGreat
namespace Go.Proofs.YtldolcbbmnmjoaaGreat
open Go.RowKit Go.Sl
abbrev MI(m n z:Nat):Kd:=λi=>if i<m then some (.blank n)else if i=m then some (.blank z)else none
theorem P9{m n z i:Nat}(h:i<m+1):(CG m n z)[i]?=some ((if i<m then n else z:Nat):Int):=by
 unfold CG;by_cases q:i<m
 · rw[Ah (by rw[j0];exact q),Oe,lam q,lam q]
 ·
  obtain rfl:i=m:=by omega
  rw[Ob (by rw[j0];exact eI _),j0,E7,aE q];rfl
theorem RN{m n z:Nat}(l:1<=n/\n<=8192)(o:1<=z/\z<=8192):Bq (aw.new (CG m n z)) (m+1) (MI m n z) 0:=by
 refine⟨⟨by show((CG m n z).map mr).length=_;rw[ew];unfold CG;rw[c9,j0];rfl,λi k e=>?_,MJ _,λi f e=>?_⟩,rfl,rfl⟩
 ·
  have f:i<m+1:=by
   unfold MI at e;split at e
   · omega
   ·
    split at e
    · omega
    · cases e
  have d:k= .blank (if i<m then n else z):=by
   unfold MI at e;split at e
   · rename_i q;rw[lam q];exact(HF e).symm
   ·
    rename_i q;rw[aE q];split at e
    · exact(HF e).symm
    · cases e
  have a:1<=(if i<m then n else z)/\(if i<m then n else z)<=8192:=by split<;>assumption
  generalize g:(if i<m then n else z)=N at*;refine⟨?_,by rw[d];rfl,by rw[d];exact⟨λb h=>by rw[Og h];rfl,λc j=>(by cases j),by rw[pM];exact a.2⟩⟩;show((CG m n z).map mr)[i]?=_;rw[law,P9 f,g,d];show some (mr (N:Int))=_;unfold mr;rw[aE (by omega),Int.toNat_natCast]
 ·
  unfold MI at e;split at e
  · cases e
  · rw[lam (by omega)]at e;cases e
theorem NO{m n z:Nat}(c:m<=16)(d:1<=n/\n<=8192)(e:1<=z/\z<=8192):IG (CG m n z)=0:=by
 have b:(CG m n z).length=m+1:=by unfold CG;rw[c9,j0];rfl
 unfold IG;rw[aE zO,lam];rw[List.all_eq_true];intro x a;unfold CG at a;rcases l0.1 a with q|q
 · rw[Og q];unfold pk;simp;omega
 · rw[ju.1 q];unfold pk;simp;omega
structure Ba(X:aY):Prop where
  ok:X.ok
  ring:5<=X.ring/\X.ring<=2048
  id:X.id<18446744073709551616
  ev:1<=X.ev/\X.ev<=4611686018427387904
  sf:1<=X.sf/\X.sf<=X.ev
  aX:qR X.st X.st.length
  cur:(X.cur:Int)<=if(3:UInt8)∈X.st then(X.s:Int)-1 else 0
  cap:X.st.length<=X.sc
theorem pf{X:aY}(h:Ba X){k:Nat}(s:k<=X.m):(X.mL k).fit/\(X.mL k).yD/\(X.mL k).enc.1=0/\(X.mL k).enc.2.length=128:=by
 obtain⟨⟨i,j,l,m,n,o⟩,p,q,r,e,d,f,g⟩:=h;have b:(X.mL k).fit:=by constructor<;>simp only[aY.mL]<;>omega
 have c:(X.mL k).yD:=by
  refine⟨⟨ky ?_,ky ?_,?_,?_,?_⟩,d,?_,?_⟩<;>simp only[aY.mL,ai.last,SP]<;>try omega
 have a:(X.mL k).enc=(0,cE (X.mL k).body):=lam c;exact⟨b,c,by rw[a],by rw[a];exact lq (Gg b c)⟩
theorem PJ{m c s ring:Nat}(lazy:Bool)(h:3<=m/\m<=16)(g:1<=c/\c<=16)(n:1<=s/\s<=256)(l:5<=ring/\ring<=2048):QR m c s ring lazy (MI m (1+s*c) (2+ring)):=by
 refine⟨h,g,n,l,λi o=>lam o,?_,λb v u r w k p f=>?_⟩
 ·
  show(if m<m then _ else if m=m then _ else _)=_;rw[aE (Nat.lt_irrefl m),lam rfl]
 ·
  have e:(List.replicate m (1:UInt8)).length=m:=j0;obtain⟨a,_,b,d⟩:=pf (X:=Fz b m c s ring lazy v u r w) (k:=k) ⟨⟨h,g,n,e,λx t=>.inl (Og t),c7 _⟩,l,by dsimp only;decide,by dsimp only;decide,by dsimp only;decide,λj y _=>by rw[List.getElem_replicate];exact⟨by decide,by decide,λq=>lcs q (by decide)⟩,by dsimp only;split<;>omega,by dsimp only;rw[e];exact f⟩ p;exact⟨a,b,d⟩
theorem Ba.xn{X:aY}{K:Kd}(h:Ba X.next)(d:∃b,K X.m=some b/\0<b.last.length)(c:∀i (q:i<X.st.length),X.st[i]≠2->∃b,K i=some b/\0<b.last.length):iS X K (X.m+1):=
 ⟨⟨h.ok.m,h.ok.c,h.ok.s,h.ok.st,h.ok.u4,h.ok.cur⟩,rfl,h.ev.2,λk a=>(pf h (k:=k) a).1,λk a=>(pf h (k:=k) a).2.2.1,λk a=>(pf h (k:=k) a).2.2.2,d,c⟩
end Go.Proofs.YtldolcbbmnmjoaaGreat
namespace Go.Proofs.YtldolcbbmnmjoaaGreat
open Go.RowKit Go.Sl
attribute [local irreducible] Sl.Own
structure dN where
  a:Nat
  r:Nat
  w:Nat
  X:aY
  t:iu
  x:Option Addr×Nat
  ps:List aj
abbrev dN.L(z:dN):List ab:=[Row z.a 94 z.X.cells,dz z.X,Row z.r 128 z.t.Y.cells,Sl.Own 3 1 (.slice (ik z.t.Y.fa) z.t.Y.m z.t.Y.m) z.t.Y.m (j8 (bU z.X)),bz z.w z.t.Y.b z.t.v,bL z.x z.ps,bX z.ps]
def dN.O(z:dN):ab:=Sl.star z.L
theorem Li{W:World}{f:FuncId}{args:List Value}{b:Nat}{D:aw}{z:dN}{β:Type}{Ac:β->Prop}{c:β->Value}{D':β->aw}{T:β->List ab}(h:∀R,aq W Tryz.prog f args (al b D::(z.L++R)) Ac c (λy=>al b (D' y)::(T y++R))):iP W f args b D z.O Ac c D' (λy=>Sl.star (T y)):=λR=>
 fX (λw a=>((a.swap).join).perm (xb)) (aq.mono (h R) (λy=>y) (λ_ q=>q) (λ_ _=>rfl) (λy _ w a=>(((a.perm (xb).symm).nest).swap)))
abbrev dN.wait(z:dN):Prop:=(z.t.Y.wo=none/\z.t.Y.wl=[])\/(z.t.Y.wo=z.x.1/\z.t.Y.wl=z.ps)
theorem dN.rd{W:World}{z:dN}{H:List ab}(c:z.wait)(d:z.x.1=none->z.ps.length=0)(e:∀p∈z.ps,p.d.ok)(m1:bL z.x z.ps∈H)(m2:bX z.ps∈H):bq W H z.t.Y.wo z.t.Y.wl:=by
 rcases c with⟨a,b⟩|⟨a,b⟩
 · rw[a,b];exact bq.Tr
 · rw[a,b];exact bq.own d e m1 m2
theorem G7{W:World}{f:FuncId}{args:List Value}{b:Nat}{D:aw}{z:dN}{β:Type}{Ac:β->Prop}{c:β->Value}{D':β->aw}{T:β->List ab}{R:List ab}(h:(z.x.1=none->z.ps.length=0)->(∀p∈z.ps,p.d.ok)->aq W Tryz.prog f args (al b D::(z.L++R)) Ac c (λy=>al b (D' y)::(T y++R))):aq W Tryz.prog f args (al b D::z.O::R) Ac c (λy=>al b (D' y)::Sl.star (T y)::R):=
 G3 (p:=z.x.1=none->z.ps.length=0) (λw a=>(a.tail.join).bn (.tail _ (.tail _ (.tail _ (.tail _ (.tail _ (.head _))))))) λd=>
 G3 (p:=∀p∈z.ps,p.d.ok) (λw a=>bX.bH (a.tail.join).tail.tail.tail.tail.tail.tail) λe=>
 fX (λw a=>((a.swap).join).perm (xb)) (aq.mono (h d e) (λy=>y) (λ_ q=>q) (λ_ _=>rfl) (λy _ w a=>(((a.perm (xb).symm).nest).swap)))
theorem u7{W:World}{f:FuncId}{args:List Value}{b:Nat}{D:aw}{z:dN}{β:Type}{Ac:β->Prop}{a:β->Value}{D':β->aw}{T:β->List ab}(h:(z.x.1=none->z.ps.length=0)->(∀p∈z.ps,p.d.ok)->∀R,aq W Tryz.prog f args (al b D::(z.L++R)) Ac a (λy=>al b (D' y)::(T y++R))):iP W f args b D z.O Ac a D' (λy=>Sl.star (T y)):=λR=>G7 λc d=>h c d R
structure dN.ok(z:dN)(n:Nat)(V:Nat->Nat->List UInt8):Prop where
  X:z.X.ok
  ro:z.X.ro=false
  r:z.X.r=ik z.r
  wp:z.X.w=ik z.w
  b:z.X.b=z.t.Y.b
  g:z.t.Y.m=z.X.m/\z.t.Y.c=z.X.c/\z.t.Y.s=z.X.s
  ring:z.X.ring=z.t.v.size
  t:z.t.ok n z.w (bU z.X) V
  wait:z.wait
  lz:z.X.lazy=z.t.Y.lazy
theorem Lj{W:World}{z:dN}{n:Nat}{V:Nat->Nat->List UInt8}(h:z.ok n V)(k q:Nat)(a:k+q<=z.X.s*z.X.c* (z.X.m-1)):
  iP W 57 [eE z.a,ii k,ii q] z.t.Y.b z.t.D z.O (β:=aw×Option Addr×Nat) (λy=>Bq y.1 n z.t.K z.t.c) (λy=>.tuple #[sliceB y.2 (kI z.X.m z.X.c V k q),i6 0]) (λy=>y.1) (λy=>Sl.star (b8 y.2 (kI z.X.m z.X.c V k q)::z.L)):=
 u7 λb c R=>fX ae.re (aq.mono (Lh (R:=dz z.X::bz z.w z.t.Y.b z.t.v::bL z.x z.ps::bX z.ps::R) z.a z.r z.X h.X h.r z.t.Y h.t.Y h.g.1 h.g.2.1 h.g.2.2 (bU z.X) h.t.F (dN.rd h.wait b c zm zm) h.t.q k q a) (λy=>y) (λ_ h=>h) (λ_ _=>rfl) (λy _=>ae.re))
def dN.wr(z:dN):Option Qp->dN
  |none=>z
  |some y=>{z with t:=y.t,x:=y.x,ps:=y.ps}
abbrev iu.on(s:iu)(D1:aw):iu:=⟨s.Y,D1,s.K,s.kj,s.v,s.x,s.base,s.c⟩
theorem iu.okz.V1{s:iu}{wp:Nat}{fr:List Int}{V:Nat->Nat->List UInt8}(h:s.okz wp fr V)(D1:aw):(s.on D1).okz wp fr V:=⟨h.Y,h.w,h.F,h.nil,h.k,h.slot,h.live,h.base,h.ep,h.nx,h.mx,h.KU,h.stay,h.inr⟩
def wrD(D1:aw):Option Qp->aw
  |none=>D1
  |some y=>y.t.D
def dN.wrT(z:dN):Option Qp->ab
  |none=>z.O
  |some y=>if y.e=0 then(z.wr (some y)).O else Sl.star []
theorem Iy{W:World}{R:List ab}{z:dN}{n:Nat}{B:Nat->List UInt8}{l:List cQ}{ao:Option Addr}{cap:Nat}{D1:aw}(h:z.ok n (fy z.t.Y.m z.t.Y.c B))(o:Bq2 D1 n z.t.K z.t.c)(d:(z.t.Y.wo=none/\z.t.Y.wl=[])/\z.t.v.sure=true/\z.t.Y.lazy=false)(i:∀k row,k<z.t.Y.m->¬gB (bU z.X) k row)(u:l.length<=256)(v:iT W R ao l)(r:∀p∈l,p.dV<z.t.Y.s*z.t.Y.c* (z.t.Y.m-1))(m:∀b,b<z.t.Y.s*z.t.Y.c* (z.t.Y.m-1)->(B b).length=128)(t:z.t.c<=900000)(f:D1.c8=-1\/2*dF z.t.Y.m z.t.Y.c l+1<=z.t.v.size-z.t.v.used):
    aq W Tryz.prog 58 [eE z.a,.slice ao l.length cap] (al z.t.Y.b D1::z.O::R) (β:=Option Qp) (Up (z.t.on D1) n z.w (bU z.X) B l) (λy=>i6 (AwE (z.t.on D1) l y)) (λy=>al z.t.Y.b (wrD D1 y)::z.wrT y::R):=by
  have x:(z.t.on D1).okl n z.w (bU z.X) (fy z.t.Y.m z.t.Y.c B):=⟨h.t.tookz.V1 D1,o⟩;have j:=IA (W:=W) (s:=z.t.on D1) (R:=dz z.X::bL z.x z.ps::bX z.ps::R) (cap:=cap) z.a z.r z.X h.X h.ro h.r h.g h.ring x d i u (v.aR (ae.drop (ae.drop (ae.drop ae.refl)))) r m t f;refine fX (λw a=>((a.swap).join).perm (xb)) (fX (ae.re) (aq.mono j (λy=>y) (λ_ q=>q) (λ_ _=>rfl) (λy A=>?_)));cases y with
  |none=>
    show ae W _ (al z.t.Y.b D1::Sl.star z.L::R);exact ae.trans (ae.re (L:=al z.t.Y.b D1::(z.L++R))) λw a=>(((a.perm (xb).symm).nest).swap)
  |some y=>
    by_cases c:y.e=0
    · have e:y.t.Y.b=z.t.Y.b:=by
        obtain⟨q,-,g|g⟩:=A.2.2
        · exact g.2.2.2.1.m.1
        · exact lcs (c.symm.trans g.1) (by decide)
      show ae W (Uz _ _ _ _ _ _ _ (some y)) (al z.t.Y.b y.t.D::dN.wrT z (some y)::R)
      unfold Uz dN.wrT
      dsimp only
      rw[lam c,lam c,<-e]
      exact ae.trans (ae.re (L:=al y.t.Y.b y.t.D::((z.wr (some y)).L++R))) λw a=>(((a.perm (xb).symm).nest).swap)
    · show ae W (Uz _ _ _ _ _ _ _ (some y)) (al z.t.Y.b y.t.D::dN.wrT z (some y)::R)
      unfold Uz dN.wrT
      dsimp only
      rw[aE c,aE c]
      exact ae.trans (ae.re (L:=al z.t.Y.b y.t.D::R)) λw a=>(Sl.Holds.nest (L:=[]) a).swap
abbrev Kq(z:dN)(x:Option Addr×Nat):ab:=Sl.Own 96 1 (.slice x.1 z.X.st.length x.2) z.X.st.length (bytes z.X.st)
theorem Fk{W:World}{z:dN}{n:Nat}{V:Nat->Nat->List UInt8}(h:z.ok n V):∀R,aq W Tryz.prog 16 [eE z.a] (z.O::R) (β:=Option Addr×Nat) (λ_=>True) (λx=>.agg (lP (vU.sup z.X x) false z.t.Y.wl.length z.t.v.used).toArray) (λx=>Sl.star (Kq z x::z.L)::R):=λR=>
 fX (λw a=>a.join) (fX ae.re (aq.mono (Fl (R:=Sl.Own 3 1 (.slice (ik z.t.Y.fa) z.t.Y.m z.t.Y.m) z.t.Y.m (j8 (bU z.X))::bL z.x z.ps::bX z.ps::R) z.a z.r z.w z.X h.ro h.r h.wp (by have:=h.X.st;have:=h.X.m;omega) z.t.Y z.t.v z.t.Y.b) (λy=>y) (λ_ h=>h) (λ_ _=>rfl) (λy _=>ae.trans (ae.re (L:=Kq z y::(z.L++R))) (λw a=>a.nest (L:=Kq z y::z.L)))))
def dN.fl(z:dN)(y:aw×Kd):dN:={z with t:={z.t with Y:=z.t.Y.done,D:=y.1,K:=y.2,kj:=(y.2 z.t.Y.m).getD z.t.kj,v:=z.t.v.emp,x:=⟨[],0,none⟩,base:=z.t.v.next,c:=z.t.c+z.t.Y.wl.length}}
theorem Ix{W:World}{z:dN}{n:Nat}{V:Nat->Nat->List UInt8}(h:z.ok n V)(a:z.t.c<=1000000):
  iP W 59 [eE z.a] z.t.Y.b z.t.D z.O (β:=aw×Kd) (λy=>(z.fl y).t.ok n z.w (bU z.X) V/\z.t.to (z.fl y).t) (λ_=>i6 0) (λy=>(z.fl y).t.D) (λy=>Sl.star (z.fl y).L):=
 u7 λi j R=>fX ae.re (aq.mono (Ip (R:=dz z.X::bL z.x z.ps::bX z.ps::R) z.a z.r z.X h.ro h.r z.t.Y h.t.Y h.t.w (bU z.X) h.t.uD (dN.rd h.wait i j zm zm) h.t.q a h.t.k h.t.slot h.t.live h.t.base (h.t.lO a)) (λy=>y) (λy g=>by
  obtain⟨f,kj',b,d,c⟩:=g;have e:(y.2 z.t.Y.m).getD z.t.kj=kj':=by rw[b];rfl
  unfold dN.fl;rw[e];exact h.t.pO a f b d c) (λ_ _=>rfl) (λy _=>ae.re))
end Go.Proofs.YtldolcbbmnmjoaaGreat
namespace Go.Proofs.YtldolcbbmnmjoaaGreat
open Go.RowKit Go.Sl
attribute [local irreducible] Sl.Own
section
variable{fr fr':List Int}{K K' K0:Kd}{V:Nat->Nat->List UInt8}{m rows n w c':Nat}{S:List (List bK)}{Y:eA}{X:aY}{t:iu}{D':aw}
theorem MC{v:bT}{k:ak}{base:Nat}{x:fY}{b:List UInt8}(h:dt v k base x)(f:b.length=128):dt v (kY b 2 k) base x:=by
 have e:kY b 2 k=⟨(full k.last k.cache).set 0 b,[],k.failed⟩:=by
  show(k.write 0 b).settle (λ_=>true)=_;rw[fM];show(⟨full k.last (k.cache++[(0,b)]),[],k.failed⟩:ak)=_;rw[jZ];rfl
 have d:=h.all.TF f;have a:∀L:qk,sf (L.set 0 b)=sf L:=λL=>funext λi=>by unfold sf;rw[vD zO]
 rw[e];refine⟨h.MM,h.live,h.used,h.next,KX.nil rfl (.inr d),d,h.Uv,λo=>⟨(h.sure o).1,rfl⟩,c7 _,h.MN,λl j=>?_⟩;obtain⟨c,a2,a3,a4,a5⟩:=h.RG l j;have g:=(h.sure c).2;refine⟨c,a2,a3,a4,?_⟩;dsimp only;rw[g,a];exact a5
theorem u6{i:Nat}{c:ak}(e:K i=some c):∃b,jF X K i=some b/\b.last.length=c.last.length/\(∀a,a+1<c.last.length->b.look (a+1)=c.look (a+1))/\(∀a x,Sr c (a+1) x->Sr b (a+1) x)/\((i=X.m\/(i<X.m/\X.st.getD i 2≠2))->0<c.last.length->Sr b 0 (X.next.bytesOf i)):=by
 by_cases h:i=X.m\/(i<X.m/\X.st.getD i 2≠2)
 ·
  refine⟨kY (X.next.bytesOf i) 2 c,by rw[pL X K h,e];rfl,qh _ _ _,λa d=>?_,λa x q=>q.kY,λ_ f=>Sr.SA _ f⟩;show((c.write 0 _).settle λ_=>true).look (a+1)=_;rw[l9 (by exact d),lM,aE zO]
 · exact⟨c,by rw[vY X K h];exact e,rfl,λ_ _=>rfl,λ_ _ q=>q,λq=>lcs q h⟩
theorem CL{i:Nat}(e:K i=none):jF X K i=none:=by
 by_cases h:i=X.m\/(i<X.m/\X.st.getD i 2≠2)
 · rw[pL X K h,e];rfl
 · rw[vY X K h];exact e
theorem Data.Tb(h:Data Y fr K V)(X:aY):Data Y fr (jF X K) V:=
 ⟨h.len,h.one,h.mu,h.par,h.wait,λk row d f c=>by
  obtain⟨i,e,l,g⟩:=h.is k row d f c;obtain⟨a,e',j,b,_⟩:=u6 (X:=X) e;have g2:=b row zO;rw[BG row 1]at g2;exact⟨a,e',by omega,λq=>by rw[g2];exact g q⟩,h.y0,h.y4⟩
theorem vV.Tb(h:vV K fr m rows S V)(X:aY):vV (jF X K) fr m rows S V:=λk row o f i d e=>by
  cases a:K k with
  |none=>rw[CL a]at e;cases e
  |some j=>
    obtain⟨l,e',_,_,g,_⟩:=u6 (X:=X) a;rw[e']at e;cases e;obtain⟨b,c⟩:=h k row j f i d a;exact⟨λq=>by have:=b q;rw[BG]at this⊢;exact g _ _ this,c⟩
theorem Data.sub(h:Data Y fr K V)(f:fr'.length=Y.m)(g:∀i j,i<Y.m->j<Y.m->fr'.getD i (-1)≠-1->fr'.getD j (-1)≠-1->i=j)(l:∀k row,k<Y.m->row<Y.s*Y.c->¬gB fr' k row->¬gB fr k row/\K' k=K k):Data Y fr' K' V:=
 ⟨f,g,h.mu,h.par,h.wait,λk row a b e=>by
  obtain⟨c,d⟩:=l k row a b e;rw[d];exact h.is k row a b c,h.y0,h.y4⟩
theorem vV.sub(h:vV K fr m rows S V)(g:∀k row,k<m->row<rows->¬gB fr' k row->¬gB fr k row/\K' k=K k):vV K' fr' m rows S V:=λk row i a b f e=>by
 obtain⟨c,d⟩:=g k row a b f;exact h k row i a b c (d▸e)
theorem iu.okz.Tb(h:t.okz w fr V)(X:aY)(g:X.m=t.Y.m)(b:Data t.Y fr' K0 V)(d:vV K0 fr' t.Y.m (t.Y.s*t.Y.c) t.x.cy V)(f:K0 t.Y.m=some t.kj)(e:(X.next.bytesOf t.Y.m).length=128)(a:t.c<=c'):
  ({t with D:=D',K:=jF X K0,kj:=kY (X.next.bytesOf t.Y.m) 2 t.kj,c:=c'}:iu).okz w fr' V:=
 ⟨⟨h.Y.m,h.Y.c,h.Y.s⟩,h.w,b.Tb X,h.nil,by dsimp only;rw[pL X K0 (.inl g.symm),f];rfl,h.slot,MC h.live e,h.base,RB h.ep a,RB h.nx a,h.mx,h.KU,d.Tb X,h.inr⟩
end
structure pK(X:aY)(k:Nat)(x:UInt8)(q:Nat):Prop where
  lt:k<X.m
  st:X.st=(List.replicate X.m 1).set k x
  cur:X.cur=q
  x:(x=1/\q=0)\/(x=2/\q=0)\/(x=3/\q<X.s)
section
variable{X:aY}{k q:Nat}{x:UInt8}
theorem pK.len(h:pK X k x q):X.st.length=X.m:=by rw[h.st,Ub,j0]
theorem pK.get(h:pK X k x q){j:Nat}(a:j<X.st.length):X.st[j]=if j=k then x else 1:=by
 have e:X.st[j]?=some (if j=k then x else 1):=by
  rw[h.st,List.getElem?_set];by_cases e:k=j
  · rw[lam e,lam (by rw[j0];exact h.lt),lam e.symm]
  · rw[aE e,Oe,lam (by have:=h.len;omega),aE λq=>e q.symm]
 rw[fL a]at e;exact HF e
theorem pK.getD(h:pK X k x q){j:Nat}(a:j<X.m):X.st.getD j 2=if j=k then x else 1:=by
 have b:=h.len;rw[List.getD_eq_getElem?_getD,fL zO,h.get zO];rfl
theorem pK.u4(h:pK X k x q):∀y∈X.st,y=1\/y=2\/y=3:=λy b=>by
 obtain⟨j,a,rfl⟩:=List.mem_iff_getElem.1 b;rw[h.get a];split
 ·
  rcases h.x with g|g|g
  · exact .inl g.1
  · exact .inr (.inl g.1)
  · exact .inr (.inr g.1)
 · exact .inl rfl
theorem pK.fr(h:pK X k x q)(j:Nat):(bU X).getD j (-1)=if j<X.m then(if j=k then nC X x else-1)else-1:=by
 have b:=h.len;unfold bU;rw[List.getD_eq_getElem?_getD,law];by_cases a:j<X.m
 ·
  rw[fL zO,h.get zO,lam a];show nC X _=_;split
  · rfl
  · rfl
 · rw[Ry zO,aE a];rfl
theorem pK.gB(h:pK X k x q)(j row:Nat):gB (bU X) j row↔j=k/\x≠1/\(x=3->q*X.c<=row):=by
 have f:=h.lt;unfold Go.Proofs.YtldolcbbmnmjoaaGreat.gB;rw[h.fr];constructor
 ·
  intro⟨a,b⟩;split at a
  ·
   rename_i g;rw[lam g]at b;split at a
   ·
    rename_i e;rw[lam e]at b;refine⟨e,λc=>a (by rw[c];rfl),λd=>?_⟩;rw[d]at b;have b:((X.cur*X.c:Nat):Int)<=row:=b;rw[h.cur]at b;exact Int.ofNat_le.1 b
   · exact lcs rfl a
  · exact lcs rfl a
 ·
  rintro⟨rfl,a,b⟩;rw[lam f,lam rfl];rcases h.x with g|g|g
  · exact lcs g.1 a
  · rw[g.1];exact⟨by show(0:Int)≠-1;decide,by show(0:Int)<=row;omega⟩
  ·
   rw[g.1];have e:nC X 3=((q*X.c:Nat):Int):=by rw[<-h.cur];rfl
   rw[e];exact⟨by omega,Int.ofNat_le.2 (b g.1)⟩
theorem pK.one(h:pK X k x q){i:Nat}(e:(bU X).getD i (-1)≠-1):i=k:=by
 rw[h.fr]at e;split at e
 ·
  split at e
  · assumption
  · exact lcs rfl e
 · exact lcs rfl e
theorem pK.put(h:pK X k x q)(y:UInt8)(a:Nat)(b:(y=1/\a=0)\/(y=2/\a=0)\/(y=3/\a<X.s)):pK (X.put k y a) k y a:=
 ⟨h.lt,by show X.st.set k y=_;rw[h.st,List.set_set],rfl,b⟩
theorem pK.up(h:pK X k 1 0){j:Nat}(a:j<X.m):pK X j 1 0:=⟨a,by
 rw[h.st]
 refine E6 (by rw[Ub,Ub]) λi b c=>?_
 rw[List.getElem_set,List.getElem_set,List.getElem_replicate,ite_self,ite_self],h.cur,.inl ⟨rfl,rfl⟩⟩
theorem pK.all(h:pK X k 1 0):∀y∈X.st,y=1:=λy b=>by
 obtain⟨j,a,rfl⟩:=List.mem_iff_getElem.1 b;rw[h.get a,ite_self]
theorem pK.aX(h:pK X k x q):qR X.st X.st.length:=λj c _=>by
 have e:=h.get c;have o:x=1\/x=2\/x=3:=by rcases h.x with g|g|g;exact .inl g.1;exact .inr (.inl g.1);exact .inr (.inr g.1)
 have d:X.st[j]=1\/X.st[j]=2\/X.st[j]=3:=h.u4 _ (fF c);refine⟨by rcases d with g|g|g<;>rw[g]<;>decide,by rcases d with g|g|g<;>rw[g]<;>decide,λa m3=>?_⟩;obtain⟨i,f,b⟩:=List.mem_iff_getElem.1 m3;rw[j1]at f;rw[List.getElem_take,h.get zO]at b;rw[e]at a;by_cases l:j=k
 · rw[aE zO]at b;exact lcs b (by decide)
 · rw[aE l]at a;exact lcs a (by decide)
theorem pK.LR(h:pK X k x q)(c:1<=X.s):(X.cur:Int)<=if(3:UInt8)∈X.st then(X.s:Int)-1 else 0:=by
 have b:=h.len;have a:=h.lt;rw[h.cur];rcases h.x with g|g|g
 · split<;>omega
 · split<;>omega
 ·
  rw[lam]
  · omega
  ·
   have:=fF (l:=X.st) (n:=k) zO;rw[h.get zO,lam rfl,g.1]at this;exact this
end
structure Rest(z:dN)(n:Nat)(V:Nat->Nat->List UInt8)(k:Nat)(x:UInt8)(q E C:Nat):Prop where
  ok:z.ok n V
  n:n=z.X.m+1
  ring:5<=z.X.ring/\z.X.ring<=2048
  id:z.X.id<18446744073709551616
  ev:1<=z.X.ev/\z.X.ev<=E
  sf:1<=z.X.sf/\z.X.sf<=z.X.ev
  cap:z.X.st.length<=z.X.sc
  c:z.t.c<=C
  lost:z.X.lost=false
  sh:pK z.X k x q
  len:∀i,i<z.X.m->z.X.st.getD i 2≠2->∃kd,z.t.K i=some kd/\1+z.X.s*z.X.c<=kd.last.length
  SS:∃sf,(1<=sf/\sf<=z.X.ev)/\∀i,i<=z.X.m->i=z.X.m\/z.X.st.getD i 2≠2->∃kd,z.t.K i=some kd/\Sr kd 0 (aY.bytesOf {z.X with sf:=sf} i)
section
variable{z:dN}{n k q E C:Nat}{V:Nat->Nat->List UInt8}{x y:UInt8}
theorem Rest.mL(h:Rest z n V k x q E C)(s:E<4611686018427387904){X:aY}{j p:Nat}(a:pK X j y p)(e:X.m=z.X.m/\X.c=z.X.c/\X.s=z.X.s/\X.ring=z.X.ring/\X.id=z.X.id/\X.ev=z.X.ev/\X.sf=z.X.sf/\X.sc=z.X.sc):Ba X.next:=by
 obtain⟨c,d,f,g,i,l,o,r⟩:=e;have F:=h.ok.X.m;have u:=h.ok.X.c;have I:=h.ok.X.s;have D:=h.ok.X.st;have H:=h.ring;have B:=h.id;have v:=h.ev;have A:=h.sf;have b:=h.cap;have G:=a.cur;have J:=a.x;refine⟨⟨by show 3<=X.m/\X.m<=16;omega,by show 1<=X.c/\X.c<=16;omega,by show 1<=X.s/\X.s<=256;omega,a.len,a.u4,by show X.cur<=255;omega⟩,by show 5<=X.ring/\X.ring<=2048;omega,by show X.id<_;omega,by show 1<=X.ev+1/\X.ev+1<=_;omega,by show 1<=X.sf/\X.sf<=X.ev+1;omega,a.aX,a.LR zO,by show X.st.length<=X.sc;rw[a.len];omega⟩
theorem Rest.tell(h:Rest z n V k x q E C)(N:E<4611686018427387904){X:aY}{t:iu}{K0:Kd}{D':aw}{p c' H:Nat}(s:pK X k y p)(b:X={z.X with st:=X.st,cur:=X.cur})(I:t.Y.b=z.t.Y.b/\t.Y.lazy=z.t.Y.lazy)(em:t.Y.m=z.t.Y.m/\t.Y.c=z.t.Y.c/\t.Y.s=z.t.Y.s)(N9:t.v.size=z.t.v.size)(M:t.okz z.w (bU z.X) V)(W:(t.Y.wo=none/\t.Y.wl=[])\/(t.Y.wo=z.x.1/\t.Y.wl=z.ps))
  (O:Data t.Y (bU X) K0 V)(P:vV K0 (bU X) t.Y.m (t.Y.s*t.Y.c) t.x.cy V)(L:K0 t.Y.m=some t.kj)(j:∀i,i<z.X.m->X.st.getD i 2≠2->∃f,K0 i=some f/\1+z.X.s*z.X.c<=f.last.length)(T:Bq D' n (jF X K0) c')(Q:t.c<=c')(B:c'<=H):
  Rest {z with X:=X.told,t:={t with D:=D',K:=jF X K0,kj:=kY (X.next.bytesOf t.Y.m) 2 t.kj,c:=c'}} n V k y p (E+1) H:=by
 have f1:X.m=z.X.m:=by rw[b]
 have f2:X.c=z.X.c:=by rw[b]
 have f3:X.s=z.X.s:=by rw[b]
 have f4:X.ring=z.X.ring:=by rw[b]
 have f5:X.id=z.X.id:=by rw[b]
 have f6:X.ev=z.X.ev:=by rw[b]
 have f7:X.sf=z.X.sf:=by rw[b]
 have f8:X.sc=z.X.sc:=by rw[b]
 have f9:X.ro=z.X.ro:=by rw[b]
 have f10:X.r=z.X.r:=by rw[b]
 have f11:X.w=z.X.w:=by rw[b]
 have f12:X.b=z.X.b:=by rw[b]
 have o:=h.mL N s ⟨f1,f2,f3,f4,f5,f6,f7,f8⟩;have G:=h.ok.g;have d:X.m=t.Y.m:=by rw[f1,em.1];exact G.1.symm
 have a:=o.ok;have R:=h.ev;have U:=h.sf;have J:=h.cap;have Z:=h.ok.X.st;have F:bU X.told=bU X:=rfl;have f14:X.lazy=z.X.lazy:=by rw[b]
 have f13:X.lost=z.X.lost:=by rw[b]
 refine⟨⟨⟨a.m,a.c,a.s,a.st,a.u4,a.cur⟩,f9.trans h.ok.ro,f10.trans h.ok.r,f11.trans h.ok.wp,f12.trans (h.ok.b.trans I.1.symm),⟨d.symm,(em.2.1.trans G.2.1).trans f2.symm,(em.2.2.trans G.2.2).trans f3.symm⟩,f4.trans (h.ok.ring.trans N9.symm),⟨F.symm▸M.Tb (D':=D') X d O P L (pf o (k:=t.Y.m) (by rw[<-d];exact eI _)).2.2.2 Q,T⟩,W,f14.trans (h.ok.lz.trans I.2.symm)⟩,?_,?_,?_,?_,?_,?_,B,f13.trans h.lost,⟨s.lt,s.st,s.cur,s.x⟩,λi v u=>?_,⟨X.sf,?_,λi v u=>?_⟩⟩
 · rw[show X.told.m=z.X.m from f1];exact h.n
 · rw[show X.told.ring=z.X.ring from f4];exact h.ring
 · rw[show X.told.id=z.X.id from f5];exact h.id
 · show 1<=X.ev+1/\X.ev+1<=E+1;omega
 · show 1<=X.ev+1/\X.ev+1<=X.ev+1;omega
 · show X.st.length<=X.sc;rw[s.len];omega
 ·
  obtain⟨f,e,l⟩:=j i (by rw[<-f1];exact v) u;obtain⟨r,e',l',_⟩:=u6 (X:=X) e;exact⟨r,e',by show 1+X.s*X.c<=_;rw[f2,f3];omega⟩
 · show 1<=X.sf/\X.sf<=X.ev+1;omega
 ·
  have v:i<=X.m:=v;have u:i=X.m\/X.st.getD i 2≠2:=u;have A:i=X.m\/(i<X.m/\X.st.getD i 2≠2):=by rcases u with g|g;exact .inl g;exact(Nat.lt_or_eq_of_le v).elim (λx=>.inr ⟨x,g⟩) .inl
  have⟨f,e,l⟩:∃f,K0 i=some f/\0<f.last.length:=by
   rcases A with g|g
   · exact⟨t.kj,by rw[g,d];exact L,oU M.live⟩
   ·
    obtain⟨f,e,l⟩:=j i (by rw[<-f1];exact g.1) g.2;exact⟨f,e,by omega⟩
  obtain⟨r,e',_,_,_,g⟩:=u6 (X:=X) e;exact⟨r,e',g A l⟩
def dN.TT(z:dN)(k:Nat)(D':aw):dN:={z with X:=(z.X.put k 2 0).told,t:={z.t with D:=D',K:=jF (z.X.put k 2 0) (del z.t.K k),kj:=kY ((z.X.put k 2 0).next.bytesOf z.t.Y.m) 2 z.t.kj,c:=z.t.c+40}}
theorem Rest.fail(h:Rest z n V k 1 0 E C)(D:E<4611686018427387904):
  iS (z.X.put k 2 0) (del z.t.K k) n/\(∃d,z.t.K k=some d)/\(∀D',Bq D' n (jF (z.X.put k 2 0) (del z.t.K k)) (z.t.c+40)->Rest (z.TT k D') n V k 2 0 (E+1) (C+40))/\∀D',(z.TT k D').t.K k=none:=by
 have c:pK (z.X.put k 2 0) k 2 0:=h.sh.put 2 0 (.inr (.inl ⟨rfl,rfl⟩));have F:=h.sh.lt;have v:=h.ok.g.1;have H:=h.c;have f:∀i,i<z.X.m->(z.X.put k 2 0).st.getD i 2≠2->∃d,del z.t.K k i=some d/\1+z.X.s*z.X.c<=d.last.length:=λi r p=>by
  rw[c.getD r]at p;have A:i≠k:=λe=>p (lam e);obtain⟨d,e,l⟩:=h.len i r (by rw[h.sh.getD r,ite_self];decide);exact⟨d,by unfold del;rw[aE A];exact e,l⟩
 have o:∀j row,j<z.t.Y.m->row<z.t.Y.s*z.t.Y.c->¬gB (bU (z.X.put k 2 0)) j row->¬gB (bU z.X) j row/\del z.t.K k j=z.t.K j:=λj row _ _ p=>by
  rw[c.gB]at p;have B:j≠k:=λe=>p ⟨e,by decide,λq=>lcs q (by decide)⟩;exact⟨λg=>by rw[h.sh.gB]at g;exact g.2.1 rfl,by unfold del;rw[aE B]⟩
 have u:del z.t.K k z.t.Y.m=some z.t.kj:=by unfold del;rw[aE zO];exact h.ok.t.k
 refine⟨?_,?_,λD' G=>?_,λD'=>?_⟩
 ·
  rw[h.n];refine Ba.xn (h.mL D c ⟨rfl,rfl,rfl,rfl,rfl,rfl,rfl,rfl⟩) ⟨z.t.kj,by rw[show(z.X.put k 2 0).m=z.t.Y.m from v.symm];exact u,oU h.ok.t.live⟩ λi r p=>?_;have s:i<z.X.m:=by have:=c.len;rw[<-show(z.X.put k 2 0).m=z.X.m from rfl];omega
  obtain⟨d,e,l⟩:=f i s (by rw[c.getD s,<-c.get r];exact p);exact⟨d,e,by omega⟩
 ·
  obtain⟨d,e,_⟩:=h.len k F (by rw[h.sh.getD F,ite_self];decide);exact⟨d,e⟩
 · exact h.tell D c rfl ⟨rfl,rfl⟩ ⟨rfl,rfl,rfl⟩ rfl h.ok.t.tookz h.ok.wait (h.ok.t.F.sub (by unfold bU;rw[ew,c.len];exact v.symm) (λi j _ _ a b=>(c.one a).trans (c.one b).symm) o) (h.ok.t.stay.sub o) u f G (Nat.le_add_right _ _) zO
 ·
  refine CL ?_;unfold del;rw[lam rfl]
end
end Go.Proofs.YtldolcbbmnmjoaaGreat
namespace Go.Proofs.YtldolcbbmnmjoaaGreat
open Go.RowKit Go.Sl
attribute [local irreducible] Sl.Own
structure dN.calm(z:dN):Prop where
  wl:z.t.Y.wl=[]
  cy:z.t.x.cy=[]
  sure:z.t.v.sure=true
section
variable{z:dN}{n k q E C:Nat}{V:Nat->Nat->List UInt8}{x:UInt8}
theorem wz:∀ls:List (List bK),2*ls.flatten.length+ls.length=bu ls
 |[]=>rfl
 |l::r=>by have:=wz r;rw[fQ,List.flatten_cons,c9,tc];omega
theorem Rest.Um(h:Rest z n V k x q E C)(b:E<4611686018427387904){sf:Nat}(a:1<=sf/\sf<=z.X.ev):Ba {z.X with sf:=sf}:=by
 have c:=h.ev;exact⟨⟨h.ok.X.m,h.ok.X.c,h.ok.X.s,h.ok.X.st,h.ok.X.u4,h.ok.X.cur⟩,h.ring,h.id,by show 1<=z.X.ev/\z.X.ev<=_;omega,a,h.sh.aX,(h.sh.LR h.ok.X.s.1),h.cap⟩
theorem Rest.UB(h:Rest z n V k x q E C)(hx:x≠2)(U:z.t.v.sure=true)(hE:E<4611686018427387904)(f:Nat->Nat->Bool):∃P:aY,∃sf,P={z.X with sf:=sf}/\(1<=sf/\sf<=z.X.ev)/\QQ P n z.t.c (λi=>(z.t.K i).map λk=>k.settle (f i)) (z.t.kj.settle (f z.t.Y.m)) z.t.v.epoch z.t.base z.t.v.tail z.t.x.cy V:=by
  obtain⟨sf,hs,I⟩:=h.SS;have u:=h.ok.g.1;have D:=h.ok.g.2.1;have F:=h.ok.g.2.2;have o:=h.Um hE hs;have au:=h.ok.X.m;have hl:=h.ok.X.st;have he:=h.ev;have B:∀i,i<z.X.m->z.X.st.getD i 2≠2:=λi c=>by
    rw[h.sh.getD c];split
    · exact hx
    · decide
  have m:z.t.kj.cache=[]:=(h.ok.t.live.sure U).2;have Z:z.t.kj.settle (f z.t.Y.m)=z.t.kj:=by
    unfold ak.settle;rw[m];show(⟨z.t.kj.last,[],z.t.kj.failed⟩:ak)=z.t.kj;rw[<-m]
  have A:=h.ok.t.live.rep U;have J:=A.uZ;have X:=J.cost;have an:=A.bnd;have Y:=wz z.t.x.cy;have aa:=h.ok.t.live.next;have ba:=h.ok.t.live.len;have L:=h.ok.ring;have d:∀i,i<=z.X.m->∃t:ak,z.t.K i=some t/\(if i+1=n then 2+z.X.ring else 1+z.X.s*z.X.c)<=t.last.length/\Sr t 0 (aY.bytesOf {z.X with sf:=sf} i):=λi c=>by
    have S:=h.n;by_cases e:i=z.X.m
    · obtain⟨t,v,g⟩:=I i c (.inl e)
      have N:z.t.K i=some z.t.kj:=by rw[e,<-u];exact h.ok.t.k
      rw[N]at v;cases v
      exact⟨z.t.kj,N,by rw[lam zO];omega,g⟩
    · obtain⟨t,v,g⟩:=I i c (.inr (B i zO))
      obtain⟨bb,N,l⟩:=h.len i zO (B i zO)
      rw[v]at N;cases N
      exact⟨t,v,by rw[aE zO];exact l,g⟩
  have H:∀i,(0:Nat)<if i+1=n then 2+z.X.ring else 1+z.X.s*z.X.c:=λi=>by split<;>omega
  refine⟨_,sf,rfl,hs,⟨o.ok,h.n,h.ring,λl av hb=>?_,λi c=>?_,λi c=>?_,?_,rfl,?_,h.ok.t.base,⟨h.ok.t.ep,by rw[<-aa];exact h.ok.t.nx⟩,by show z.X.ev<_;omega,?_,⟨by omega,?_⟩,?_,?_,?_,λi j c y a b=>?_,λb so sc r w ad=>?_⟩⟩
  · have each:∀i (c:i<l.length),l[i].has=true/\l[i].s.bare={TJ {z.X with sf:=sf}with role:=(i:Int),so:=none,sc:=0}:=λi c=>by
      have S:=h.n;obtain⟨M,v,hB⟩:=hb i c;obtain⟨t,e,R,ag⟩:=d i zO;rw[e]at v;have v:=HF v;have K:M.look 0=cE (aY.mL {z.X with sf:=sf} i).body:=by
        rw[<-v];exact(ag.settle (f i)).look.trans (JB Prod.snd (lam (pf o (k:=i) (by show i<=z.X.m;omega)).2.1:(aY.mL {z.X with sf:=sf} i).enc=_))
      obtain⟨q1,q2,_,_⟩:=pf o (k:=i) (by show i<=z.X.m;omega);have O:jg (M.look 0)=(0,(aY.mL {z.X with sf:=sf} i).hold (none,0) z.X.st):=by
        rw[K];exact Ke q2 (Gg q1 q2)
      have G:CS n i M=(true,(aY.mL {z.X with sf:=sf} i).hold (none,0) z.X.st):=by
        unfold CS;rw[O,lam];refine⟨rfl,?_⟩;unfold Ao;rw[<-v,dM];split
        · rename_i g;rw[lam g]at R;show(2:Int)+(z.X.ring:Int)<=_;omega
        · rename_i g;rw[aE g]at R;show(1:Int)+(z.X.s:Int)* (z.X.c:Int)<=_;rw[<-Int.natCast_mul];omega
      refine⟨by rw[hB.has,G],?_⟩;rw[hB.s,G];show(aY.mL {z.X with sf:=sf} i).hold (none,0) z.X.st=_;unfold ai.hold;dsimp only;rw[h.lost];rfl
    have S:=h.n
    exact⟨by omega,by show(z.X.m:Int)=_;omega,each,λi c=>(pf o (k:=i) (by show i<=z.X.m;omega)).2.1,λi j c y a b=>by
      have c:i<z.X.st.length:=c;have y:j<z.X.st.length:=y;have a:z.X.st[i]≠1:=a;have b:z.X.st[j]≠1:=b;rw[h.sh.get c]at a;rw[h.sh.get y]at b;by_cases g:i=k
      · by_cases g2:j=k
        · rw[g,g2]
        · rw[aE g2]at b;exact lcs rfl b
      · rw[aE g]at a;exact lcs rfl a⟩
  · have S:=h.n
    obtain⟨t,e,l,_⟩:=d i zO
    have:=H i
    exact⟨_,by rw[e];rfl,by rw[dM];omega⟩
  · have c:i<z.X.m:=c
    obtain⟨t,e,l⟩:=h.len i c (B i c)
    exact⟨_,by rw[e];rfl,by rw[dM];exact l⟩
  · show(z.t.K z.X.m).map _=_
    rw[<-u,h.ok.t.k];rfl
  · rw[Z];show qt z.X.ring _ _ _ _ _;rw[L];exact A
  · intro p hp
    have:=h.ok.t.inr p hp
    rw[u,D,F]at this
    exact this
  · by_cases e:z.t.x.cy=[]
    · rw[e];exact c7 _
    · have:1<=z.t.x.cy.length:=CD.2 e
      omega
  · intro j row t y T hd e
    cases W:z.t.K j with
    |none=>dsimp only at e;rw[W]at e;cases e
    |some k0=>
      dsimp only at e;rw[W]at e;cases e
      obtain⟨g1,g2⟩:=h.ok.t.stay j row k0 (by rw[u];exact y) (by rw[D,F];exact T) hd W
      exact⟨λg=>(g1 g).settle _,g2⟩
  · intro j row y T;exact h.ok.t.F.mu j row (by rw[u];exact y) (by rw[D,F];exact T)
  · intro row T
    have:=h.ok.t.F.par row (by rw[D,F];exact T)
    rw[u]at this
    exact this
  · have c:i<z.X.st.length:=c
    have y:j<z.X.st.length:=y
    have a:z.X.st[i]≠1:=a
    have b:z.X.st[j]≠1:=b
    rw[h.sh.get c]at a
    rw[h.sh.get y]at b
    by_cases g:i=k
    · by_cases g2:j=k
      · rw[g,g2]
      · rw[aE g2]at b;exact lcs rfl b
    · rw[aE g]at a;exact lcs rfl a
  · have S:=h.n
    rw[S]
    have Q:∀i,i<=z.X.m->∃t,(z.t.K i).map (λk=>k.settle (f i))=some t/\0<t.last.length:=λi c=>by
      obtain⟨t,e,l,_⟩:=d i c;have:=H i;exact⟨_,by rw[e];rfl,by rw[dM];omega⟩
    exact Ba.xn ⟨⟨h.ok.X.m,h.ok.X.c,h.ok.X.s,h.ok.X.st,h.ok.X.u4,h.ok.X.cur⟩,h.ring,h.id,by show 1<=z.X.ev+1/\z.X.ev+1<=_;omega,by show 1<=sf/\sf<=z.X.ev+1;omega,h.sh.aX,(h.sh.LR h.ok.X.s.1),ad⟩ (Q z.X.m (eI _)) λi c _=>Q i (by have:i<z.X.st.length:=c;omega)
def CH.S(P:aY)(b:Nat)(y:CH):dN:=⟨y.a,y.r,y.w,y.X P b,y.t,(none,0),[]⟩
theorem Rest.T4(h:Rest z n V k x q E C)(A:x≠2){sf:Nat}(G:1<=sf/\sf<=z.X.ev){K:Kd}(u:∀i j,z.t.K i=some j->∃f,K i=some f/\f.last.length=j.last.length){b:Nat}{y:CH}(g:KV {z.X with sf:=sf} b n K V z.t.c y):Rest (y.S {z.X with sf:=sf} b) n V k x q (E+1) (C+3000)/\(y.S {z.X with sf:=sf} b).calm:=by
 have D:=h.ev;have B:=h.c;have v:=g.c;have F:=h.ok.X.st;have a:=g.Y;have p:y.t.Y.b=b/\y.t.Y.m=z.X.m/\y.t.Y.c=z.X.c/\y.t.Y.s=z.X.s:=⟨(JB eA.b a:),(JB eA.m a:),(JB eA.c a:),(JB eA.s a:)⟩;have d:∀i,i<z.X.m->z.X.st.getD i 2≠2:=λi c=>by
  rw[h.sh.getD c];split
  · exact A
  · decide
 refine⟨⟨⟨⟨h.ok.X.m,h.ok.X.c,h.ok.X.s,h.ok.X.st,h.ok.X.u4,h.ok.X.cur⟩,rfl,rfl,rfl,p.1.symm,p.2,g.size.symm,g.ok,.inl ⟨(g.ok.nil g.wl).1,g.wl⟩,(JB eA.lazy a:).symm⟩,h.n,h.ring,h.id,by show 1<=z.X.ev+1/\z.X.ev+1<=E+1;omega,by show 1<=z.X.ev+1/\z.X.ev+1<=z.X.ev+1;omega,g.cap,by show y.t.c<=_;omega,rfl,⟨h.sh.lt,h.sh.st,h.sh.cur,h.sh.x⟩,λi c r=>?_,⟨sf,by show 1<=sf/\sf<=z.X.ev+1;omega,λi c r=>?_⟩⟩,g.wl,g.cy,g.sure⟩
 ·
  have c:i<z.X.m:=c;obtain⟨j,e,l⟩:=h.len i c (d i c);obtain⟨m,s,H⟩:=u i j e;obtain⟨o,t,I⟩:=g.len i m (show i≠z.X.m by omega) s;exact⟨o,t,by show 1+z.X.s*z.X.c<=_;omega⟩
 · exact g.sr i c r
end
end Go.Proofs.YtldolcbbmnmjoaaGreat
namespace Go.Proofs.YtldolcbbmnmjoaaGreat
open Go.RowKit Go.Sl
attribute [local irreducible] Sl.Own
structure dN.mH(z z':dN):Prop where
  b:z'.t.Y.b=z.t.Y.b
  m:z'.X.m=z.X.m
  c:z'.X.c=z.X.c
  s:z'.X.s=z.X.s
  ring:z'.X.ring=z.X.ring
  lazy:z'.t.Y.lazy=z.t.Y.lazy
theorem dN.mH.refl(z:dN):z.mH z:=⟨rfl,rfl,rfl,rfl,rfl,rfl⟩
theorem KB(m c:Nat):fy m c (λ_=>dC)=λ_ _=>dC:=funext λk=>funext λrow=>by
 unfold fy;rw[show yZ m c (λ_=>dC) row=λ_=>dC from funext λi=>by unfold yZ;rw[ite_self],AX,ite_self]
section
variable{W:World}{z:dN}{n k q E C:Nat}{V:Nat->Nat->List UInt8}{x:UInt8}
theorem Rest.to(h:Rest z n V k x q E C){t':iu}{x':Option Addr×Nat}{ps':List aj}{p:Nat->Nat->List UInt8}{o:Nat}(u:t'.ok n z.w (bU z.X) p)(to:z.t.to t')(v:(t'.Y.wo=none/\t'.Y.wl=[])\/(t'.Y.wo=x'.1/\t'.Y.wl=ps'))(r:t'.c<=o):Rest {z with t:=t',x:=x',ps:=ps'} n p k x q E o/\z.mH {z with t:=t',x:=x',ps:=ps'}:=by
 have a:=to.m;have f:=h.ok.g;refine⟨⟨⟨h.ok.X,h.ok.ro,h.ok.r,h.ok.wp,h.ok.b.trans a.1.symm,⟨a.2.1.trans f.1,a.2.2.1.trans f.2.1,a.2.2.2.1.trans f.2.2⟩,h.ok.ring.trans to.size.symm,u,v,h.ok.lz.trans a.2.2.2.2.2.1.symm⟩,h.n,h.ring,h.id,h.ev,h.sf,h.cap,r,h.lost,h.sh,λi c d=>?_,?_⟩,⟨a.1,rfl,rfl,rfl,rfl,a.2.2.2.2.2.1⟩⟩
 ·
  obtain⟨j,e,l⟩:=h.len i c d;obtain⟨b,e',m,_⟩:=to.z i j e;have c:i<z.X.m:=c;exact⟨b,e',by rw[m zO];exact l⟩
 ·
  obtain⟨sf,s,g⟩:=h.SS;refine⟨sf,s,λi c d=>?_⟩;obtain⟨j,e,l⟩:=g i c d;obtain⟨b,e',_,m⟩:=to.z i j e;exact⟨b,e',m _ l⟩
theorem Q1(h:Rest z n V k x q E C)(a b:Nat)(c:a+b<=z.X.s*z.X.c* (z.X.m-1)):
  iP W 57 [eE z.a,ii a,ii b] z.t.Y.b z.t.D z.O (β:=dN×Option Addr×Nat) (λy=>(Rest y.1 n V k x q E C/\z.mH y.1)/\(z.calm->y.1.calm)/\y.1.a=z.a) (λy=>.tuple #[sliceB y.2 (kI z.X.m z.X.c V a b),i6 0]) (λy=>y.1.t.D) (λy=>Sl.star [b8 y.2 (kI z.X.m z.X.c V a b),y.1.O]):=λR=>
 aq.mono (Lj h.ok a b c R) (λy=>({z with t:={z.t with D:=y.1}},y.2)) (λy f=>⟨h.to (t':={z.t with D:=y.1}) ⟨⟨h.ok.t.Y,h.ok.t.w,h.ok.t.F,h.ok.t.nil,h.ok.t.k,h.ok.t.slot,h.ok.t.live,h.ok.t.base,h.ok.t.ep,h.ok.t.nx,h.ok.t.mx,h.ok.t.KU,h.ok.t.stay,h.ok.t.inr⟩,f⟩ ⟨rfl,rfl,λi j e=>⟨j,e,λ_=>rfl,λ_ g=>g⟩,eI _⟩ h.ok.wait h.c,λg=>⟨g.wl,g.cy,g.sure⟩,rfl⟩) (λ_ _=>rfl)
  (λy _ w d=>(((((((d.swap).join:Holds W (b8 y.2 (kI z.X.m z.X.c V a b)::(z.L++(al z.t.Y.b y.1::R))) w).perm List.perm_middle.symm).nest).swap).nest (L:=[b8 y.2 (kI z.X.m z.X.c V a b),z.O])).swap))
structure dN.easy(z:dN):Prop where
  wo:z.t.Y.wo=none
  wl:z.t.Y.wl=[]
  sure:z.t.v.sure=true
  lz:z.t.Y.lazy=false
def WrP(z a:dN)(l:List cQ):Prop:=((z.X.ring<2*dF z.X.m z.X.c l+1\/l=[])/\a=z)\/
  (2*dF z.X.m z.X.c l+1<=z.X.ring/\l≠[]/\a.t.v.used=(if 2*dF z.X.m z.X.c l+1<=z.X.ring-z.t.v.used then z.t.v.used else 0)+(2*dF z.X.m z.X.c l+1)/\
    (2*dF z.X.m z.X.c l+1<=z.X.ring-z.t.v.used->∃q,fJ z.X.m z.X.c l q/\Did z.t.D a.t.D (rdS z.X.m z.X.c q.out+3*dF z.X.m z.X.c l+3)))
theorem Ow{R:List ab}{B:Nat->List UInt8}{l:List cQ}{ao:Option Addr}{cap:Nat}(h:Rest z n (fy z.X.m z.X.c B) k 1 0 E C)(o:z.easy)(N:l.length<=256)(Q:iT W R ao l)(M:∀p∈l,p.dV<z.X.s*z.X.c* (z.X.m-1))(L:∀b,b<z.X.s*z.X.c* (z.X.m-1)->(B b).length=128)(S:C<=900000):
    aq W Tryz.prog 58 [eE z.a,.slice ao l.length cap] (al z.t.Y.b z.t.D::z.O::R) (β:=dN) (λf=>(Rest f n (fy z.X.m z.X.c (if z.X.ring<2*dF z.X.m z.X.c l+1 then B else hU l B)) k 1 0 E (C+4000)/\z.mH f)/\f.a=z.a/\f.easy/\WrP z f l) (λ_=>i6 (if z.X.ring<2*dF z.X.m z.X.c l+1 then 122 else 0)) (λf=>al z.t.Y.b f.t.D::f.O::R):=by
  have c:=h.ok.g;have T:=h.c;have e:=h.ok.t.q.c8;have K:=Iy (W:=W) (cap:=cap) (B:=B) (ao:=ao) (l:=l) (D1:=z.t.D) (by rw[c.1,c.2.1];exact h.ok) h.ok.t.q.bq0 ⟨⟨o.wo,o.wl⟩,o.sure,o.lz⟩ (λj row _ g=>((h.sh.gB j row).1 g).2.1 rfl) N Q (by rw[c.1,c.2.1,c.2.2];exact M) (by rw[c.1,c.2.1,c.2.2];exact L) (by omega) (.inl e);have m:∀y,Up (z.t.on z.t.D) n z.w (bU z.X) B l (some y)->y.e=0:=λy d=>by
    obtain⟨-,-,q,-,g|g⟩:=d
    · exact g.1
    · obtain⟨-,-,-,g⟩:=g
      have e:(z.t.on z.t.D).D.c8=-1:=e
      rcases g with g|⟨-,g⟩|⟨-,g⟩<;>(have:=g.lo;omega)
  have a:=h.ok.ring;refine aq.mono K (λy=>z.wr y) (λy d=>?_) (λy d=>?_) (λy d=>?_)
  · cases y with
    |none=>
      have d:z.t.v.size<2*dF z.t.Y.m z.t.Y.c l+1\/l=[]:=d
      rw[c.1,c.2.1,<-a]at d
      refine⟨⟨?_,dN.mH.refl z⟩,rfl,o,.inl ⟨d,rfl⟩⟩
      have G:fy z.X.m z.X.c (if z.X.ring<2*dF z.X.m z.X.c l+1 then B else hU l B)=fy z.X.m z.X.c B:=by
        split
        · rfl
        · rename_i g
          rcases d with q|q
          · exact lcs q g
          · rw[q];rfl
      rw[G]
      exact⟨h.ok,h.n,h.ring,h.id,h.ev,h.sf,h.cap,by show z.t.c<=_;omega,h.lost,h.sh,h.len,h.SS⟩
    |some y=>
      have F:=m y d
      obtain⟨i,a2,q,r,g|g⟩:=d
      · obtain⟨-,-,t,u,A,I,H,v,b7,b8⟩:=g
        have P:kz q.out=dF z.X.m z.X.c l:=by rw[<-c.1,<-c.2.1];exact r.PH
        have i:2*dF z.t.Y.m z.t.Y.c l+1<=z.t.v.size:=i
        have H:y.t.c<=z.t.c+4000:=H
        have v:y.t.v.used=(if 2*kz q.out+1<=z.t.v.size-z.t.v.used then z.t.v.used else 0)+(2*kz q.out+1):=v
        have b8:2*kz q.out+1<=z.t.v.size-z.t.v.used->Did z.t.D y.t.D (rdS z.t.Y.m z.t.Y.c q.out+3*kz q.out+3):=b8
        have r:fJ z.t.Y.m z.t.Y.c l q:=r
        have t:y.t.okl n z.w (bU z.X) (fy z.t.Y.m z.t.Y.c (hU l B)):=t
        rw[P,<-a]at v b8
        rw[c.1,c.2.1]at i t b8 r
        rw[<-a]at i
        rw[aE (by omega)]
        have s:z.t.to y.t:=⟨u.fix,u.size,u.z,u.c⟩
        obtain⟨J,c2⟩:=h.to (t.ok (b7 e)) s (.inl A) (show y.t.c<=C+4000 by omega) (x':=y.x) (ps':=y.ps)
        exact⟨⟨J,c2⟩,rfl,⟨A.1,A.2,I,s.m.2.2.2.2.2.1.trans o.lz⟩,.inr ⟨i,a2,v,λg=>⟨q,r,b8 g⟩⟩⟩
      · exact lcs (F.symm.trans g.1) (by decide)
  · cases y with
    |none=>show Value.int .u16 (AwE (z.t.on z.t.D) l none:Nat)=_;unfold AwE;dsimp only;rw[c.1,c.2.1,<-a];split<;>rfl
    |some y=>
      have F:=m y d
      have i:2*dF z.t.Y.m z.t.Y.c l+1<=z.t.v.size:=d.1
      rw[c.1,c.2.1,<-a]at i
      show Value.int .u16 (y.e:Nat)=_
      rw[F,aE (by omega)];rfl
  · cases y with
    |none=>exact ae.refl
    |some y=>
      show ae W (al z.t.Y.b y.t.D::dN.wrT z (some y)::R) (al z.t.Y.b y.t.D::(z.wr (some y)).O::R)
      unfold dN.wrT
      dsimp only
      rw[lam (m y d)]
      exact ae.refl
theorem Oq(h:Rest z n V k x q E C)(c:C<=1000000):iP W 59 [eE z.a] z.t.Y.b z.t.D z.O (β:=dN) (λa=>(Rest a n V k x q E (C+1023)/\z.mH a)/\a.a=z.a) (λ_=>i6 0) (λa=>a.t.D) (λa=>a.O):=λR=>by
 have d:=h.c;have e:=h.ok.t.mx;exact aq.mono (Ix h.ok zO R) (λy=>z.fl y) (λy b=>⟨h.to b.1 b.2 (.inl ⟨rfl,rfl⟩) (by show z.t.c+z.t.Y.wl.length<=_;omega),rfl⟩) (λ_ _=>rfl) (λ_ _=>ae.refl)
theorem Ou(h:Rest z n V k x q E C):∀R,aq W Tryz.prog 16 [eE z.a] (z.O::R) (β:=Option Addr×Nat) (λ_=>True) (λy=>.agg (lP (vU.sup z.X y) false z.t.Y.wl.length z.t.v.used).toArray) (λy=>Sl.star (Kq z y::z.L)::R):=Fk h.ok
theorem CO(h:Rest z n V k 1 0 E C)(d:E<4611686018427387904)(j:C<=1000000):iP W 61 [eE z.a,ii k] z.t.Y.b z.t.D z.O (β:=dN) (λa=>(Rest a n V k 2 0 (E+1) (C+40)/\z.mH a)/\a.a=z.a/\a.t.K k=none) (λ_=>i6 0) (λa=>a.t.D) (λa=>a.O):=by
 obtain⟨e,⟨m,b⟩,i,f⟩:=h.fail d;have l:=h.c;intro R;exact aq.mono (Li (z:=z) (T:=λD'=>(z.TT k D').L) (λR=>by
  have g:=Lb (W:=W) (R:=bz z.w z.t.Y.b z.t.v::bL z.x z.ps::bX z.ps::R) z.a z.r z.X h.ok.X z.t.Y k h.sh.lt b h.sh.all e h.ok.ro h.ok.r h.ok.g.1 (bU z.X) (by unfold bU;rw[ew,h.sh.len]) h.ok.t.q zO;rw[h.ok.b]at g;exact fX ae.re (aq.mono g (λy=>y) (λ_ h=>h) (λ_ _=>rfl) (λy _=>ae.re))) R) (λD'=>z.TT k D') (λD' c=>⟨⟨i D' c,rfl,rfl,rfl,rfl,rfl,rfl⟩,rfl,f D'⟩) (λ_ _=>rfl) (λ_ _=>ae.refl)
theorem Oo(h:Rest z n V k x q E C)(g:x≠2)(d:z.t.v.sure=true)(l:E<4611686018427387904)(p:C<=900000)(kl:List (List Bool)):∀R,aq W Tryz.prog 70 [eE z.t.Y.b] (al z.t.Y.b (z.t.D.cut kl)::R) (β:=dN) (λa=>(Rest a n V k x q (E+1) (C+3000)/\z.mH a)/\a.calm) (λa=>.tuple #[eE a.a,i6 0]) (λa=>al z.t.Y.b a.t.D::a.O::R):=λR=>by
 have r:=h.c;obtain⟨P,sf,rfl,o,m⟩:=h.UB g d l λi=>jI (kl.getD i []);have j:=Bc (W:=W) (R:=R) z.t.Y.b m (h.ok.t.q.cut kl) zO;refine aq.mono j (λy=>y.S {z.X with sf:=sf} z.t.Y.b) (λy c=>?_) (λ_ _=>rfl) (λy c=>?_)
 ·
  obtain⟨g1,g2⟩:=h.T4 g o (λi s e=>⟨_,by rw[e];rfl,dM _ _⟩) c;have b:=c.Y;exact⟨⟨g1,(JB eA.b b:),rfl,rfl,rfl,rfl,(JB eA.lazy b:).trans h.ok.lz⟩,g2⟩
 ·
  have e:y.t.Y.b=z.t.Y.b:=(JB eA.b c.Y:);show ae W _ (al z.t.Y.b y.t.D::Sl.star (y.S {z.X with sf:=sf} z.t.Y.b).L::R);rw[<-e];exact ae.trans (λw f=>Holds.aZ 207 3 (di (res:=aj.res) f)) (ae.trans (ae.re (L:=(y.S {z.X with sf:=sf} y.t.Y.b).L++al y.t.Y.b y.t.D::R)) λw f=>(f.nest).swap)
end
end Go.Proofs.YtldolcbbmnmjoaaGreat
namespace Go.Proofs.YtldolcbbmnmjoaaGreat
open Go.RowKit Go.Sl
attribute [local irreducible] Sl.Own
theorem Ie{z:Int}(h:(Lit.int .u16 z).wf=true):∃m:Nat,z=m/\m<65536:=by
 simp[Lit.wf,IntKind.min,IntKind.max,IntKind.signed,IntKind.bits]at h;exact⟨z.toNat,by omega,by omega⟩
theorem nS{z:Int}(h:(Lit.int .u8 z).wf=true):∃m:Nat,z=m/\m<256:=by
 simp[Lit.wf,IntKind.min,IntKind.max,IntKind.signed,IntKind.bits]at h;exact⟨z.toNat,by omega,by omega⟩
theorem Ut:Tryz.prog.cellsOf 22=1:=by kernel_rfl
theorem k8:Tryz.prog.cellsOf 5=1:=by kernel_rfl
theorem kB:Tryz.prog.cellsOf 26=1:=by kernel_rfl
theorem kK:Tryz.prog.cellsOf 27=1:=by kernel_rfl
theorem kb:Tryz.prog.cellsOf 4=1:=by kernel_rfl
theorem kA:Tryz.prog.cellsOf 23=1:=by kernel_rfl
structure sJ where
  b:Nat
  f:Nat
abbrev sJ.cells(x:sJ):List Value:=[i6 x.b,ib x.f]
def Qt(l:List sJ):List Value:=l.flatMap sJ.cells
theorem OG(p:sJ):∀u∈p.cells,u.oneCell'=true:=by simp[Value.oneCell']
theorem zf(l:List sJ)(j i:Nat)(h:j<l.length)(a:i<2):(Qt l)[j*2+i]?=(l[j].cells)[i]? :=vA l j i h (λ_ _=>rfl) a
theorem Q8{W:World}{cs:List Value}(h:jA Tryz.prog W 75 cs):∃o:sJ,cs=o.cells/\o.b<65536/\o.f<256:=by
  have c:=(h.nQ Tryz.underlying75).1;have c2:Tryz.prog.cellsOf 75=2:=by kernel_rfl
  rw[c2]at c;match cs,c with
  |[v0,v1],_=>
    have g0:jA Tryz.prog W 22 [v0]:=h.field (i:=0) (off:=0) Tryz.underlying75 rfl rfl rfl Ut;have g1:jA Tryz.prog W 5 [v1]:=h.field (i:=1) (off:=1) Tryz.underlying75 rfl rfl rfl k8;obtain⟨z0,d,w0⟩:=g0.kL Tryz.underlying22;obtain⟨z1,e,j⟩:=g1.kL Tryz.underlying5;obtain⟨a,rfl,f⟩:=Ie w0;obtain⟨b,rfl,g⟩:=nS j;cases d;cases e;exact⟨⟨a,b⟩,rfl,f,g⟩
structure A7(W:World)(ao:Option Addr)(l:List sJ):Prop where
  gz:∀R,aV W R 2 ao l.length (Qt l)
  fit:∀x∈l,x.b<65536/\x.f<256
  len:l.length<=140737488351232
theorem OH{W:World}{ao:Option Addr}{n cap:Nat}(h:jA Tryz.prog W 26 [.slice ao n cap]):∃l:List sJ,l.length=n/\A7 W ao l:=by
 obtain⟨l,a,c,d,i,e⟩:=h.list sJ.cells (λx=>x.b<65536/\x.f<256) ⟨0,0⟩ Tryz.underlying26 (by kernel_rfl) (λo _=>OG o) (λcs g=>Q8 g);have b:1<=Tryz.prog.bytesOf 75:=cI (by kernel_rfl);have f:cap<=reachBytes:=RB (Nat.le_mul_of_pos_right cap b) e;refine⟨l,a,⟨λR=>?_,d,by simp only[reachBytes]at f;omega⟩⟩;rw[a];exact c R
structure oC where
  kind:Nat
  slot:Nat
  n:Nat
  x:Option Addr×Nat
  l:List sJ
  y:Option Addr×Nat
  ks:List fI
abbrev oC.cells(o:oC):List Value:=[ib o.kind,ib o.slot,ib o.n,.slice o.x.1 o.l.length o.x.2,.slice o.y.1 o.ks.length o.y.2]
def Ic(l:List oC):List Value:=l.flatMap oC.cells
theorem Qb(p:oC):∀u∈p.cells,u.oneCell'=true:=by simp[Value.oneCell']
theorem mP(l:List oC)(j i:Nat)(h:j<l.length)(a:i<5):(Ic l)[j*5+i]?=(l[j].cells)[i]? :=vA l j i h (λ_ _=>rfl) a
structure oC.wf(W:World)(o:oC):Prop where
  l:A7 W o.x.1 o.l
  ks:∀R,oy W R o.y.1 o.ks
  kl:∀x∈o.ks,x.l.length<=140737488351232
  kn:o.ks.length<=140737488351232
theorem SE{W:World}{cs:List Value}(h:jA Tryz.prog W 34 cs):∃o:oC,cs=o.cells/\o.wf W:=by
  have g:=(h.nQ Tryz.underlying34).1;have k:Tryz.prog.cellsOf 34=5:=by kernel_rfl
  rw[k]at g;match cs,g with
  |[v0,v1,v2,v3,v4],_=>
    have g0:jA Tryz.prog W 5 [v0]:=h.field (i:=0) (off:=0) Tryz.underlying34 rfl rfl rfl k8;have g1:jA Tryz.prog W 5 [v1]:=h.field (i:=1) (off:=1) Tryz.underlying34 rfl rfl rfl k8;have g2:jA Tryz.prog W 5 [v2]:=h.field (i:=2) (off:=2) Tryz.underlying34 rfl rfl rfl k8;have g3:jA Tryz.prog W 26 [v3]:=h.field (i:=3) (off:=3) Tryz.underlying34 rfl rfl rfl kB;have g4:jA Tryz.prog W 27 [v4]:=h.field (i:=4) (off:=4) Tryz.underlying34 rfl rfl rfl kK;obtain⟨z0,p,w0⟩:=g0.kL Tryz.underlying5;obtain⟨z1,q,x⟩:=g1.kL Tryz.underlying5;obtain⟨z2,r,y⟩:=g2.kL Tryz.underlying5;obtain⟨ao,n,cap,_,e,_⟩:=g3.kX Tryz.underlying26;obtain⟨j,m,d,_,f,_⟩:=g4.kX Tryz.underlying27;rw[e]at g3;rw[f]at g4;obtain⟨l,rfl,s⟩:=OH g3;obtain⟨kl,rfl,t,u,v⟩:=DI g4;obtain⟨a,rfl,z⟩:=nS w0;obtain⟨b,rfl,A⟩:=nS x;obtain⟨c,rfl,B⟩:=nS y;cases p;cases q;cases r;cases e;cases f;exact⟨⟨a,b,c,(ao,cap),l,(j,d),kl⟩,rfl,⟨s,t,u,v⟩⟩
structure K7(W:World)(ao:Option Addr)(l:List oC):Prop where
  gz:∀R,aV W R 5 ao l.length (Ic l)
  each:∀o∈l,o.wf W
  len:l.length<=140737488351232
theorem Qc{W:World}{ao:Option Addr}{n cap:Nat}(h:jA Tryz.prog W 23 [.slice ao n cap]):∃l:List oC,l.length=n/\K7 W ao l:=by
 obtain⟨l,a,c,d,i,e⟩:=h.list oC.cells (oC.wf W) ⟨0,0,0,(none,0),[],(none,0),[]⟩ Tryz.underlying23 (by kernel_rfl) (λo _=>Qb o) (λcs g=>SE g);have b:1<=Tryz.prog.bytesOf 34:=cI (by kernel_rfl);have f:cap<=reachBytes:=RB (Nat.le_mul_of_pos_right cap b) e;refine⟨l,a,⟨λR=>?_,d,by simp only[reachBytes]at f;omega⟩⟩;rw[a];exact c R
structure dy where
  a:Nat
  b:Nat
  c:Nat
  r:Nat
  lazy:Bool
  x:Option Addr×Nat
  l:List oC
abbrev dy.cells(p:dy):List Value:=[ib p.a,ib p.b,ib p.c,i6 p.r,.bool p.lazy,.slice p.x.1 p.l.length p.x.2]
structure dy.wf(W:World)(p:dy):Prop where
  a:p.a<256
  b:p.b<256
  c:p.c<256
  r:p.r<65536
  l:K7 W p.x.1 p.l
abbrev dy.gm(p:dy):Nat:=3+p.a%14
abbrev dy.gc(p:dy):Nat:=1+p.b%16
abbrev dy.gs(p:dy):Nat:=1+p.c
abbrev dy.gr(p:dy):Nat:=5+p.r%2044
theorem PR{W:World}{cs:List Value}(h:jA Tryz.prog W 25 cs):∃o:dy,cs=o.cells/\o.wf W:=by
  have e:=(h.nQ Tryz.underlying25).1;have f:Tryz.prog.cellsOf 25=6:=by kernel_rfl
  rw[f]at e;match cs,e with
  |[v0,v1,v2,v3,v4,v5],_=>
    have g0:jA Tryz.prog W 5 [v0]:=h.field (i:=0) (off:=0) Tryz.underlying25 rfl rfl rfl k8;have g1:jA Tryz.prog W 5 [v1]:=h.field (i:=1) (off:=1) Tryz.underlying25 rfl rfl rfl k8;have g2:jA Tryz.prog W 5 [v2]:=h.field (i:=2) (off:=2) Tryz.underlying25 rfl rfl rfl k8;have g3:jA Tryz.prog W 22 [v3]:=h.field (i:=3) (off:=3) Tryz.underlying25 rfl rfl rfl Ut;have g4:jA Tryz.prog W 4 [v4]:=h.field (i:=4) (off:=4) Tryz.underlying25 rfl rfl rfl kb;have g5:jA Tryz.prog W 23 [v5]:=h.field (i:=5) (off:=5) Tryz.underlying25 rfl rfl rfl kA;obtain⟨z0,g,w0⟩:=g0.kL Tryz.underlying5;obtain⟨z1,j,y⟩:=g1.kL Tryz.underlying5;obtain⟨z2,k,z⟩:=g2.kL Tryz.underlying5;obtain⟨z3,m,A⟩:=g3.kL Tryz.underlying22;obtain⟨v,p⟩:=g4.CY Tryz.underlying4;obtain⟨ao,n,cap,_,d,_⟩:=g5.kX Tryz.underlying23;rw[d]at g5;obtain⟨l,rfl,x⟩:=Qc g5;obtain⟨a,rfl,q⟩:=nS w0;obtain⟨b,rfl,s⟩:=nS y;obtain⟨c,rfl,t⟩:=nS z;obtain⟨r,rfl,u⟩:=Ie A;cases g;cases j;cases k;cases m;cases p;cases d;exact⟨⟨a,b,c,r,v,(ao,cap),l⟩,rfl,⟨q,s,t,u,x⟩⟩
section
variable{W:World}{R:List ab}
theorem HU{p:dy}(h:p.wf W):az W Tryz.prog 12 [.agg p.cells.toArray] R (.agg (cv p.gm p.gc p.gs).toArray) R:=by
 have c:=h.a;have d:=h.b;have e:=h.c;refine ze Tryz.func12 Tryz.ntmps12 ?_;refine zj λ_=>?_;refine w ?_;rename_i q;refine zq ?_;refine ay.aB AB rfl ?_;intro f;refine w ?_;refine VO.re 5 (ii p.a) rfl (by rw[IntWalk.i64_in _ ⟨by omega,by omega⟩]) ?_;refine VO.pure rfl rfl (af.rem (a:=p.a) (b:=14) rfl rfl (by decide)) rfl ?_;refine w ?_;refine VO.re 10 (ii p.b) rfl (by rw[IntWalk.i64_in _ ⟨by omega,by omega⟩]) ?_;refine VO.pure rfl rfl (af.rem (a:=p.b) (b:=16) rfl rfl (by decide)) rfl ?_;refine w ?_;refine VO.re 7 (ii p.gm) rfl (by congr 1) ?_;refine VO.re 12 (ii p.gc) rfl (by congr 1) ?_;refine VO.re 16 (ii p.gs) rfl (by rw[IntWalk.i64_in p.c ⟨by omega,by omega⟩,IntWalk.i64_in (1+(p.c:Int)) ⟨by omega,by omega⟩];congr 1) ?_;refine VO.pure rfl rfl (af.build AB rfl (show aC _ _ _=some (cv p.gm p.gc p.gs)by simp[aC,bR,Value.cells])) rfl ?_;refine zS (cv p.gm p.gc p.gs) ?_;exact VE.results1 (.inl rfl) () rfl (aL.agg (vs:=cv p.gm p.gc p.gs) ah rfl rfl zm rfl rfl) trivial rfl (ae.drop (ae.drop ae.refl))
theorem sj{p:dy}(h:p.wf W):az W Tryz.prog 13 [.agg p.cells.toArray] R (ii p.gr) R:=by
 have c:=h.r;refine ze Tryz.func13 Tryz.ntmps13 ?_;refine zj λ_=>?_;refine w ?_;refine VO.re 5 (ii p.r) rfl (by rw[IntWalk.i64_in _ ⟨by omega,by omega⟩]) ?_;refine VO.pure rfl rfl (af.rem (a:=p.r) (b:=2044) rfl rfl (by decide)) rfl ?_;refine w ?_;refine VE.ax rfl (by congr 1) (ae.drop ae.refl)
abbrev O6(f i:Nat):List UInt8:=List.replicate i (UInt8.ofNat f)++List.replicate (128-i) 0
theorem ru{f:Nat}(h:f<256):aq W Tryz.prog 15 [.int .u8 f] R (β:=Nat) (λ_=>True) (λb=>.slice (ik b) 128 128) (λb=>b8 (ik b,128) (List.replicate 128 (UInt8.ofNat f))::R):=by
 refine ze Tryz.func15 Tryz.ntmps15 ?_;refine zq ?_;refine ay.dd eH rfl rfl rfl ?_ ?_ rfl ?_
 · decide
 · decide
 intro nb;refine w ?_;have a:∀i,i<=128->(O6 f i).length=128:=λi g=>by unfold O6;rw[c9,j0,j0];omega
 refine VC.loop (α:=Nat) (λi=>i<=128) (λi=>Sl.Own 5 1 (.slice (ik nb) 128 128) 128 (bytes (O6 f i))::R) (λi=>[(0,.int .u8 f),(3,.slice (ik nb) 128 128),(4,.int .i64 i)]) (λi=>128-i) rfl 0 (c7 _) (by rw[show bytes (O6 f 0)=List.replicate 128 (.int .u8 0)from dD 128];exact ae.re) ⟨rfl,rfl,rfl,trivial⟩ ?_;intro i g;refine w ?_;refine zk ?_ ?_<;>intro d
 ·
  have c:i<128:=by have:=cI d;omega
  clear d;refine zw ?_;refine ay.EJ ah rfl rfl rfl rfl zh (by rw[ff,a i g];exact c) ?_;refine w ?_;have e:(bytes (O6 f i)).set i (.int .u8 f)=bytes (O6 f (i+1)):=by
   unfold bytes;rw[show(Value.int .u8 (f:Int))=gv (UInt8.ofNat f)by unfold gv;rw[UInt8.toNat_ofNat_of_lt' h],<-List.map_set];congr 1;unfold O6;rw[KR _ _ (by rw[j0];exact eI _),j0,E7,show 128-i=(128-(i+1))+1 by omega,List.replicate_succ,List.set_cons_zero,List.replicate_succ',lx];rfl
  rw[e];exact VE.round (i+1) c zO ⟨rfl,rfl,b7 rfl (by congr 1),trivial⟩ ae.re
 obtain rfl:i=128:=by have:=dx d;omega
 refine w ?_;have e:O6 f 128=List.replicate 128 (UInt8.ofNat f):=by unfold O6;rw[E7,List.replicate_zero,mn]
 rw[e];exact VE.done nb rfl trivial rfl ae.re
theorem L6(a b c r n:Nat):((a:Int)*b*c+r)* (min (n:Int) 1000+4)=(((a*b*c+r)* (min n 1000+4):Nat):Int):=by
 rw[Int.natCast_mul,Int.natCast_add,Int.natCast_mul,Int.natCast_mul,Int.natCast_add (min n 1000) 4];congr 2;omega
structure S0(p:dy):Prop where
  len:p.l.length<=200
  sz:(p.gm*p.gc*p.gs+p.gr)* (min p.l.length 1000+4)<=131072
theorem Rr{p:dy}(h:p.wf W):aq W Tryz.prog 4 [.agg p.cells.toArray] R (β:=Bool) (λb=>b=false->S0 p) (λb=>.bool b) (λ_=>R):=by
 have F:=h.l.len;have D:p.gm*p.gc<=16*16:=RC (by unfold dy.gm;omega) (by unfold dy.gc;omega);have H:p.gm*p.gc*p.gs<=256*256:=RC D (by have:=h.c;unfold dy.gs;omega);have L:p.gr<=2048:=by unfold dy.gr;omega
 have I:(p.gm*p.gc*p.gs+p.gr)* (min p.l.length 1000+4)<=67584*1004:=RC zO zO;have i1:(0:Int)<=(p.gm:Int)*p.gc/\(p.gm:Int)*p.gc<=256:=by rw[<-Int.natCast_mul];exact⟨Int.natCast_nonneg _,Int.ofNat_le.2 D⟩
 have i2:(0:Int)<=(p.gm:Int)*p.gc*p.gs/\(p.gm:Int)*p.gc*p.gs<=65536:=by rw[<-Int.natCast_mul,<-Int.natCast_mul];exact⟨Int.natCast_nonneg _,Int.ofNat_le.2 H⟩
 have C:=L6 p.gm p.gc p.gs p.gr p.l.length;have i4:(0:Int)<=((p.gm:Int)*p.gc*p.gs+p.gr)* (min (p.l.length:Int) 1000+4)/\((p.gm:Int)*p.gc*p.gs+p.gr)* (min (p.l.length:Int) 1000+4)<=67584*1004:=by
  rw[C];exact⟨Int.natCast_nonneg _,Int.ofNat_le.2 I⟩
 refine ze Tryz.func4 Tryz.ntmps4 ?_;refine zj λ_=>?_;refine w ?_;rename_i q;refine zt (s:=HU h) (h:=?_);intro _ _;refine zw ?_;refine ay.aB AB rfl ?_;intro A;refine zS (cv p.gm p.gc p.gs) ?_;refine zx [9] 16 [0,1,2,3,4,5,6,7,8,11,12,13,14,15,9,10,16,17] _ ?_;refine zt (s:=sj h) (h:=?_);intro _ _;refine⟨ae.re,?_⟩;refine w ?_;refine zk ?_ ?_<;>intro o
 ·
  refine w ?_;exact VE.done true rfl (λq=>by cases q) rfl (ae.drop (ae.drop ae.refl))
 have z:(p.gm*p.gc*p.gs+p.gr)* (min p.l.length 1000+4)<=131072:=by
  have:=dx o;rw[C]at this;omega
 clear o i1 i2 i4 C D H L I;obtain⟨d,e,pc,f,a,⟨j,g⟩,l⟩:=p;dsimp only at F z;refine VC.aR (H':=Row A 36 (cv (dy.gm ⟨d,e,pc,f,a,⟨j,g⟩,l⟩) (dy.gc ⟨d,e,pc,f,a,⟨j,g⟩,l⟩) (dy.gs ⟨d,e,pc,f,a,⟨j,g⟩,l⟩))::Row q 25 (dy.cells ⟨d,e,pc,f,a,⟨j,g⟩,l⟩)::R) ae.re ?_;generalize cv (dy.gm ⟨d,e,pc,f,a,⟨j,g⟩,l⟩) (dy.gc ⟨d,e,pc,f,a,⟨j,g⟩,l⟩) (dy.gs ⟨d,e,pc,f,a,⟨j,g⟩,l⟩)=G;refine w ?_;refine VC.loop (α:=Nat×Nat) (λy=>y.1<=l.length/\y.2<=1407374883512320) (λ_=>Row A 36 G::Row q 25 (dy.cells ⟨d,e,pc,f,a,⟨j,g⟩,l⟩)::R) (λy=>[(1,ip q),(4,ii y.2),(5,ii y.1)]) (λy=>l.length-y.1) rfl (0,l.length) ⟨c7 _,by show l.length<=_;omega⟩ ae.re ⟨rfl,rfl,rfl,trivial⟩ ?_;rintro⟨i,n⟩ ⟨O,U⟩;dsimp only at O U⊢;refine w ?_;refine zg ?_ ?_<;>intro u
 ·
  have c:i<l.length:=by have q:((i:Nat):Int)<(l.length:Int):=cI u;omega
  have x:aV W (Row A 36 G::Row q 25 (dy.cells ⟨d,e,pc,f,a,⟨j,g⟩,l⟩)::R) 5 j l.length (Ic l):=h.l.gz _;obtain⟨K,rfl⟩:=iK x.nil zO;have B:l[i].wf W:=h.l.each _ (fF c);have M:=B.l.len;have S:=B.kn;refine w ?_;refine zk ?_ ?_<;>intro o
  ·
   have T:n<=20000:=by have:=cI o;omega
   clear o u;refine w ?_;refine VC.quiet rfl (by kernel_rfl) (by kernel_rfl) ?_;refine w ?_;refine VQ.pure rfl rfl (af.fH ah rfl rfl x (mP l i 3 c (by decide))) rfl ?_;refine w ?_;refine VQ.pure rfl rfl (af.fH ah rfl rfl x (mP l i 4 c (by decide))) rfl ?_;refine w ?_;refine VC.re 4 (ii ((n+(l[i].l.length+l[i].ks.length):Nat):Int)) rfl (by congr 1) ?_;refine w ?_;refine VC.loop (α:=Nat×Nat) (λy=>y.1<=l[i].ks.length/\y.2<=1407374883512320) (λ_=>Row A 36 G::Row q 25 (dy.cells ⟨d,e,pc,f,a,⟨some K,g⟩,l⟩)::R) (λy=>[(1,ip q),(4,ii y.2),(5,ii i),(6,ii y.1)]) (λy=>l[i].ks.length-y.1) rfl (0,n+(l[i].l.length+l[i].ks.length)) ⟨c7 _,by dsimp only;omega⟩ ae.re ⟨rfl,rfl,rfl,rfl,trivial⟩ ?_;rintro⟨k,m⟩ ⟨P,g2⟩;dsimp only at P g2⊢;refine w ?_;refine VO.pure rfl rfl (af.fH ah rfl rfl x (mP l i 4 c (by decide))) rfl ?_;refine w ?_;refine zg ?_ ?_<;>intro u
   ·
    have r:k<l[i].ks.length:=by have:=cI u;omega
    have t:=(B.ks (Row A 36 G::Row q 25 (dy.cells ⟨d,e,pc,f,a,⟨some K,g⟩,l⟩)::R)).gz;obtain⟨V,v⟩:=iK t.nil zO;rw[v]at t;have Q:=B.kl _ (fF r);refine w ?_;refine zk ?_ ?_<;>intro o
    ·
     have J:m<=20000:=by have:=cI o;omega
     refine w ?_;refine VO.pure rfl rfl (af.fH ah rfl rfl x (show(Ic l)[i*5+4]?=some (.slice (some V) l[i].ks.length l[i].y.2)by rw[mP l i 4 c (by decide),<-v];rfl)) rfl ?_;refine w ?_;refine VO.pure rfl rfl (af.rZ ah rfl rfl t (show(l[i].ks.map fI.ei)[k]?=some l[i].ks[k].ei by rw[law,fL r];rfl)) rfl ?_;refine w ?_;exact VE.round (k+1,m+l[i].ks[k].l.length) ⟨r,by dsimp only;omega⟩ (by dsimp only;omega) ⟨rfl,b7 rfl (by congr 1),rfl,b7 rfl (by congr 1),trivial⟩ ae.refl
    ·
     refine w ?_;exact VE.round (i+1,m) ⟨c,g2⟩ (by dsimp only;omega) ⟨rfl,rfl,b7 rfl (by congr 1),trivial⟩ ae.refl
   ·
    refine w ?_;refine w ?_;exact VE.round (i+1,m) ⟨c,g2⟩ (by dsimp only;omega) ⟨rfl,rfl,b7 rfl (by congr 1),trivial⟩ ae.refl
  ·
   have N:20000<n:=by have:=dx o;omega
   refine w ?_;refine VO.gT rfl rfl rfl (ky zO) ?_;refine w ?_;refine VE.done true rfl ?_ rfl (ae.drop (ae.drop ae.refl));intro q;cases q
 ·
  have E:i=l.length:=by have q:¬((i:Nat):Int)<(l.length:Int):=dx u;omega
  subst E;refine w ?_;refine w ?_;refine zg ?_ ?_<;>intro u
  ·
   refine w ?_;refine VE.done true rfl ?_ rfl (ae.drop (ae.drop ae.refl));intro q;cases q
  ·
   refine w ?_;exact VE.done (decide (200<l.length)) rfl (λq=>⟨by have:¬200<l.length:=dx q;show l.length<=200;omega,z⟩) (by congr 1;rw[cN];show((200:Int)<(l.length:Int))↔_;omega) (ae.drop (ae.drop ae.refl))
end
end Go.Proofs.YtldolcbbmnmjoaaGreat
namespace Go.Proofs.YtldolcbbmnmjoaaGreat
open Go.RowKit Go.Sl
attribute [local irreducible] Sl.Own
abbrev kW(z:dN):qJ:=⟨z.t.Y.b,ik z.a,z.X.s*z.X.c,z.X.m,z.X.c,z.X.s⟩
abbrev kH(r:Nat)(z:dN)(R:List ab):List ab:=Row r 72 (kW z).cells::al z.t.Y.b z.t.D::z.O::R
theorem dN.mH.trans{a b c:dN}(h:a.mH b)(g:b.mH c):a.mH c:=⟨g.b.trans h.b,g.m.trans h.m,g.c.trans h.c,g.s.trans h.s,g.ring.trans h.ring,g.lazy.trans h.lazy⟩
theorem HY{z a:dN}(h:z.mH a):(kW z).arr (ik a.a)=kW a:=by unfold kW;rw[h.b,h.m,h.c,h.s]
theorem Nf{z b:dN}(h:z.mH b)(c:b.a=z.a):(kW z).arr (kW z).a=kW b:=by rw[<-HY h,c]
section
variable{W:World}{R:List ab}{z:dN}{r n k q E C:Nat}{V:Nat->Nat->List UInt8}{x:UInt8}{A:mz}
theorem q9{c:dN}{M:List ab}(h:z.mH c)(d:c.a=z.a):ae W (Row r 72 ((kW z).arr (kW z).a).cells::al (kW z).b c.t.D::M) (Row r 72 (kW c).cells::al c.t.Y.b c.t.D::M):=by
 rw[Nf h d,show(kW z).b=c.t.Y.b from h.b.symm];exact ae.refl
theorem Te(h:Rest z n V k x q E C)(d:C<=1000000)(c:A.kind=3):aq W Tryz.prog 10 [eE r,.agg A.cells.toArray] (kH r z R) (β:=dN) (λa=>(Rest a n V k x q E (C+1023)/\z.mH a)/\a.a=z.a) (λa=>.agg (cn 0 dh (eU z.t.D a.t.D)).toArray) (λa=>kH r a R):=
 aq.mono (uq (f:=29) (ar:=true) (X:=kW z) (D:=z.t.D) (S:=z.O) (by rw[c];rfl) (λ_=>rfl) (λ_ _=>by simp) (λ_=>rfl) (Gs (e:=λ_=>0) (Oq h d))) (λy=>y) (λ_ h=>h) (λ_ _=>rfl) (λa b=>q9 b.1.2 b.2)
theorem O3(h:Rest z n V k 1 0 E C)(i:E<4611686018427387904)(g:C<=1000000)(d:A.kind=4)(j:A.slot=k):aq W Tryz.prog 10 [eE r,.agg A.cells.toArray] (kH r z R) (β:=dN) (λa=>(Rest a n V k 2 0 (E+1) (C+40)/\z.mH a)/\a.a=z.a) (λa=>.agg (cn 0 dh (eU z.t.D a.t.D)).toArray) (λa=>kH r a R):=by
 have b:=CO (W:=W) h i g;rw[<-j]at b;exact aq.mono (uq (f:=30) (ar:=false) (X:=kW z) (D:=z.t.D) (S:=z.O) (by rw[d];rfl) (λe=>by cases e) (λ_ _=>by simp) (λ_=>rfl) (J2 (e:=λ_=>0) rfl b)) (λy=>y) (λ_ h=>⟨h.1,h.2.1⟩) (λ_ _=>rfl) (λa c=>q9 c.1.2 c.2.1)
theorem LX{kl:List fI}(h:Rest z n V k x q E C)(u:x≠2)(g:z.t.v.sure=true)(p:E<4611686018427387904)(o:C<=900000)(m:A.kind=9)(s:∀R,oy W R A.ko kl)(d:kl.length=A.kl)(t:A.n<=0):aq W Tryz.prog 10 [eE r,.agg A.cells.toArray] (kH r z R) (β:=dN) (λc=>(Rest c n V k x q (E+1) (C+3000)/\z.mH c)/\c.calm) (λc=>.agg (cn 0 dh (eU z.t.D c.t.D)).toArray) (λc=>kH r c R):=by
 have j:oD W 35 r (kW z) A z.t.D z.O (β:=dN) (λc=>(Rest c n V k x q (E+1) (C+3000)/\z.mH c)/\c.calm) (λ_=>0) (λ_=>dh) (λc=>ik c.a) (λc=>c.t.D) (λc=>c.O):=
  Nh (a:=λc:dN=>⟨c.a,0,none⟩) s d t (Oo h u g p o (kl.map fI.l))
 have l:=uq (R:=R) (f:=35) (ar:=false) (by rw[m];rfl) (λe=>by cases e) (λ_ _=>by simp) (λ_=>rfl) j;refine aq.mono l (λy=>y) (λ_ h=>h) (λ_ _=>rfl) (λc i=>?_);rw[HY i.1.2,show(kW z).b=c.t.Y.b from i.1.2.b.symm];exact ae.refl
theorem LY(h:Rest z n V k x q E C)(a b:Nat)(l:a+b<=z.X.s*z.X.c* (z.X.m-1))(j:A.kind=1)(g:A.block=a)(i:A.n=b):aq W Tryz.prog 10 [eE r,.agg A.cells.toArray] (kH r z R) (β:=dN×Option Addr×Nat) (λy=>(Rest y.1 n V k x q E C/\z.mH y.1)/\(z.calm->y.1.calm)/\y.1.a=z.a) (λy=>.agg (cn 0 (sliceB y.2 (kI z.X.m z.X.c V a b)) (eU z.t.D y.1.t.D)).toArray) (λy=>b8 y.2 (kI z.X.m z.X.c V a b)::kH r y.1 R):=by
 have c:=Q1 (W:=W) h a b l;rw[<-g,<-i]at c;refine aq.mono (uq (f:=27) (ar:=true) (X:=kW z) (D:=z.t.D) (S:=z.O) (by rw[j];rfl) (λ_=>rfl) (λ_ _=>by simp) (λ_=>rfl) (J3 (e:=λ_=>0) (o:=λ_=>dh) (λ_=>rfl) c)) (λy=>y) (λ_ h=>h) (λ_ _=>rfl) (λy d=>ae.trans (q9 d.1.2 d.2.2) λw m=>?_);exact(ae.re:ae W ([b8 y.2 (kI z.X.m z.X.c V a b),y.1.O]++(Row r 72 (kW y.1).cells::al y.1.t.Y.b y.1.t.D::R)) (b8 y.2 (kI z.X.m z.X.c V a b)::kH r y.1 R)) w ((m.perm ((List.Perm.cons _ (List.Perm.swap _ _ _)).trans (List.Perm.swap _ _ _))).join)
theorem Qu{L:List ab}{B:Nat->List UInt8}{l:List cQ}(h:Rest z n (fy z.X.m z.X.c B) k 1 0 E C)(H:z.easy)(F:l.length<=256)(G:∀R,iT W (L++R) A.po l)(i:A.pl=l.length)(v:∀p∈l,p.dV<z.X.s*z.X.c* (z.X.m-1))(t:∀b,b<z.X.s*z.X.c* (z.X.m-1)->(B b).length=128)(u:C<=900000)(s:A.kind=2):
  aq W Tryz.prog 10 [eE r,.agg A.cells.toArray] (kH r z (L++R)) (β:=dN) (λc=>(Rest c n (fy z.X.m z.X.c (if z.X.ring<2*dF z.X.m z.X.c l+1 then B else hU l B)) k 1 0 E (C+4000)/\z.mH c)/\c.a=z.a/\c.easy/\WrP z c l) (λc=>.agg (cn (if z.X.ring<2*dF z.X.m z.X.c l+1 then 122 else 0:Nat) dh (eU z.t.D c.t.D)).toArray) (λc=>kH r c (L++R)):=by
 have o:iP W 58 [.pointer (kW z).a,.slice A.po A.pl A.pc] (kW z).b z.t.D (Sl.star (z.O::L)) (β:=dN) (λc=>(Rest c n (fy z.X.m z.X.c (if z.X.ring<2*dF z.X.m z.X.c l+1 then B else hU l B)) k 1 0 E (C+4000)/\z.mH c)/\c.a=z.a/\c.easy/\WrP z c l) (λ_=>i6 ((if z.X.ring<2*dF z.X.m z.X.c l+1 then 122 else 0:Nat):Int)) (λc=>c.t.D) (λc=>Sl.star (c.O::L)):=λR=>by
  have g:=Ow (W:=W) (R:=L++R) (cap:=A.pc) h H F (G R) v t u;rw[<-i]at g;exact fX (λw d=>((d.swap.join).perm (xb (l₁:=z.O::L)))) (aq.mono g (λy=>y) (λ_ h=>h) (λ_ _=>by congr 1;split<;>rfl) (λc _ w d=>((d.perm (xb (l₁:=c.O::L)).symm).nest (L:=c.O::L)).swap))
 have g:∀(zz:dN)(X Y:ab),(X::Y::zz.O::(L++R)).Perm ((zz.O::L)++(X::Y::R)):=λzz X Y=>((xb (l₁:=zz.O::L) (a:=X) (l₂:=Y::R)).trans (List.Perm.cons X (xb (l₁:=zz.O::L) (a:=Y) (l₂:=R)))).symm;have j:∀(P X Y:ab),(P::X::Y::R).Perm (X::Y::P::R):=λP X Y=>(List.Perm.swap X P _).trans (List.Perm.cons X (List.Perm.swap Y P _));refine fX (λw d=>(((d.perm (g z _ _)).nest).perm (j _ _ _))) (aq.mono (uq (f:=28) (ar:=true) (X:=kW z) (D:=z.t.D) (S:=Sl.star (z.O::L)) (by rw[s];rfl) (λ_=>rfl) (λ_ _=>by simp) (λ_=>rfl) (Gu (e:=λ_=>if z.X.ring<2*dF z.X.m z.X.c l+1 then 122 else 0) o)) (λy=>y) (λ_ h=>h) (λ_ _=>rfl) (λc m=>ae.trans (q9 m.1.2 m.2.1) λw d=>((d.perm (j _ _ _).symm).join).perm (g c _ _).symm))
end
end Go.Proofs.YtldolcbbmnmjoaaGreat
namespace Go.Proofs.YtldolcbbmnmjoaaGreat
open Go.RowKit Go.Sl
attribute [local irreducible] Sl.Own
section
variable{W:World}{R:List ab}
variable{z:dN}{r n k q E C:Nat}{V:Nat->Nat->List UInt8}{x:UInt8}{A:mz}
theorem Sd(h:Rest z n V k x q E C):aq W Tryz.prog 8 [eE r] (kH r z R) (β:=Option Addr×Nat) (λ_=>True) (λy=>.tuple #[.agg (lP (vU.sup z.X y) false z.t.Y.wl.length z.t.v.used).toArray,.bool true]) (λ_=>kH r z R):=
 fX (H':=Row r 72 (kW z).cells::z.O::al z.t.Y.b z.t.D::R) ae.re (aq.mono (Er (X:=kW z) (S:=z.O) (Ac:=λ_=>True) (sd:=λy=>vU.sup z.X y) (T:=λy=>Sl.star (Kq z y::z.L)) rfl (Ou h)) (λy=>y) (λ_ h=>h) (λ_ _=>rfl) (λy _ w a=>
  (ae.re:ae W (z.O::(Row r 72 (kW z).cells::al z.t.Y.b z.t.D::R)) (kH r z R)) w (((a.swap).join:Holds W (Kq z y::(z.L++(Row r 72 (kW z).cells::al z.t.Y.b z.t.D::R))) w).tail.nest)))
end
end Go.Proofs.YtldolcbbmnmjoaaGreat
namespace Go.Proofs.YtldolcbbmnmjoaaGreat
open Go.RowKit Go.Sl
attribute [local irreducible] Sl.Own
section
variable{α:Type}
theorem zU(x:Int×α)(r:List (Int×α))(k:Int):fj (x::r) k=if x.1=k then some x.2 else fj r k:=by
 unfold fj;rw[List.find?_cons];by_cases e:x.1=k
 · rw[lam e,ky e];rfl
 · rw[aE e,gx e]
theorem Bp{l:List (Int×α)}{k:Int}(h:k∉l.map (·.1)):l.filter (λx=>x.1≠k)=l:=
 List.filter_eq_self.2 λx a=>ky λe=>h (fG.2 ⟨x,a,e⟩)
theorem uE(k:Int)(v:α):∀{l:List (Int×α)},(l.map (·.1)).Nodup->(mq l k v).length=l.length+(if(fj l k).isSome then 0 else 1)
  |[],_=>rfl
  |x::r,h=>by
    have a:=uE k v (List.nodup_cons.1 h).2;unfold mq at a⊢;rw[c9,ie]at a⊢;rw[zU,tc,List.filter_cons];by_cases e:x.1=k
    · have b:k∉r.map (·.1):=e▸(List.nodup_cons.1 h).1
      rw[aE (by simp[e]),lam e,Bp b];rfl
    · rw[lam (by simp[e]),aE e,tc]
      omega
theorem Ia{r:Int}{es:List (Int×α)}(g:List (Int×α)->List (Int×α)):∀{P:List (Int×List (Int×α))},(P.map (·.1)).Nodup->fj P r=some es->(P.map λs=>(if s.1=r then g s.2 else s.2).length).sum+es.length=(P.map λs=>s.2.length).sum+(g es).length
  |[],_,h=>(by cases h)
  |x::q,h,e=>by
    rw[zU]at e;rw[BI,BI,List.sum_cons,List.sum_cons];by_cases c:x.1=r
    · rw[lam c]at e
      have e:=HF e
      have a:r∉q.map (·.1):=c▸(List.nodup_cons.1 h).1
      have b:(q.map λs=>(if s.1=r then g s.2 else s.2).length)=q.map λs=>s.2.length:=Mx λs d=>by
        rw[aE λe=>a (fG.2 ⟨s,d,e⟩)]
      rw[b,lam c,e]
      omega
    · rw[aE c]at e
      have f:=Ia g (List.nodup_cons.1 h).2 e
      rw[aE c]
      omega
theorem Cm{P:List (Int×List (Int×α))}{r:Int}(h:(P.map (·.1)).Nodup):((gK P r).map (·.1)).Nodup:=by
 unfold gK;split
 · exact h
 ·
  rename_i e;rw[jv,List.nodup_append];refine⟨h,by simp,λa c b d=>?_⟩;rw[List.map_singleton,ju]at d;rintro rfl;rw[d]at c;exact e (mE.2 c)
theorem Kn(P:List (Int×List (Int×α)))(r k:Int)(v:α):(tV P r k v).map (·.1)=P.map (·.1):=by unfold tV;rw[FZ];rfl
end
structure S7(P:List (Int×List (Int×List UInt8))):Prop where
  one:(P.map (·.1)).Nodup
  each:∀s∈P,(s.2.map (·.1)).Nodup
theorem S7.put{P:List (Int×List (Int×List UInt8))}(h:S7 P)(r k:Int)(v:List UInt8):S7 (sy P r k v):=by
 unfold sy;refine⟨by rw[Kn];exact Cm h.one,λs c=>?_⟩;unfold tV at c;obtain⟨t,a,rfl⟩:=fG.1 c;have b:(t.2.map (·.1)).Nodup:=by
  unfold gK at a;split at a
  · exact h.each t a
  ·
   rcases l0.1 a with q|q
   · exact h.each t q
   · rw[ju.1 q];exact List.nodup_nil
 split
 · exact xL b k v
 · exact b
theorem P6(m c:Nat)(l:List cQ):S7 (kD m c l):=by
 induction l using lH with
 |nil=>exact⟨List.nodup_nil,λs a=>(TW a).elim⟩
 |snoc l p b=>rw[jN];exact b.put _ _ _
abbrev Sv(P:List (Int×List (Int×List UInt8))):Nat:=P.length+(P.map λs=>s.2.length).sum
theorem Nu{P:List (Int×List (Int×List UInt8))}(h:S7 P)(r k:Int)(v:List UInt8):Sv (sy P r k v)=Sv P+(if(Du P r k).isSome then 0 else 1)+(if(fj P r).isSome then 0 else 1):=by
  have b:∀Q:List (Int×List (Int×List UInt8)),(tV Q r k v).map (λs=>s.2.length)=Q.map λs=>(if s.1=r then mq s.2 k v else s.2).length:=λQ=>by unfold tV;rw[FZ];rfl
  have a:∀Q:List (Int×List (Int×List UInt8)),(tV Q r k v).length=Q.length:=λQ=>by unfold tV;rw[ew]
  unfold Sv sy;rw[b,a];unfold Du;cases e:fj P r with
  |none=>
    have n:r∉P.map (·.1):=λq=>by have:=mE.2 q;rw[e]at this;cases this
    have c:gK P r=P++[(r,[])]:=by unfold gK;rw[e];rfl
    have t:(P.map λs=>(if s.1=r then mq s.2 k v else s.2).length)=P.map λs=>s.2.length:=Mx λs d=>by
      rw[aE λe=>n (fG.2 ⟨s,d,e⟩)]
    rw[c,jv,t,c9,lcm];simp[mq];omega
  |some es=>
    have c:gK P r=P:=by unfold gK;rw[e];rfl
    have p:(es.map (·.1)).Nodup:=by
      have:(r,es)∈P:=by
        unfold fj at e;cases f:P.find? (λx=>x.1=r)with
        |none=>rw[f]at e;cases e
        |some x=>
          rw[f]at e;have g:=List.find?_some f;have i:=List.mem_of_find?_eq_some f;have j:x.2=es:=HF e;have m:x.1=r:=cI g;rw[<-j,<-m];exact i
      exact h.each _ this
    rw[c];have d:=Ia (λl=>mq l k v) h.one e;have o:=uE k v p;rw[o]at d;show P.length+_=P.length+_+(if(fj es k).isSome=true then 0 else 1)+0;omega
theorem Me(m c:Nat)(l:List cQ)(r:Int):(fj (kD m c l) r).isSome=decide (∃q∈l,((cJ m c q.dV).row:Int)=r):=by
  induction l using lH with
  |nil=>rw[gx (by simp)];rfl
  |snoc l p a=>
    rw[jN];unfold sy;rw[Hw,Option.isSome_map,zV];by_cases e:r=((cJ m c p.dV).row:Int)
    · rw[lam e,ky ⟨p,by simp,e.symm⟩];rfl
    · rw[aE e,a,cN]
      constructor
      · rintro⟨q,hq,g⟩;exact⟨q,List.mem_append_left _ hq,g⟩
      · rintro⟨q,hq,g⟩
        rcases l0.1 hq with hq|hq
        · exact⟨q,hq,g⟩
        · rw[ju.1 hq]at g;exact lcs g.symm e
theorem An{m c:Nat}(i:3<=m)(f:1<=c)(l:List cQ)(p:cQ):dF m c (l++[p])=dF m c l+(if ∃q∈l,q.dV=p.dV then 0 else 1)+(if ∃q∈l,(cJ m c q.dV).row=(cJ m c p.dV).row then 0 else 1):=by
 have h:=Nu (P6 m c l) (cJ m c p.dV).row (cJ m c p.dV).av p.d.data;rw[<-jN,Me,wN]at h;have d:∀b,wj m c (cJ m c b).av (cJ m c b).row=b:=λb=>(u9 i f).1;have e:(iG m c l (cJ m c p.dV).row (cJ m c p.dV).av).isSome=decide (∃q∈l,q.dV=p.dV):=by
  unfold iG;rw[Option.isSome_map,Bool.eq_iff_iff,List.find?_isSome,decide_eq_true_iff];constructor
  ·
   rintro⟨q,a,g⟩;have g:=cI g;exact⟨q,HH.1 a,by rw[<-d q.dV,<-d p.dV,Int.ofNat_inj.1 g.1,Int.ofNat_inj.1 g.2]⟩
  ·
   rintro⟨q,a,g⟩;exact⟨q,HH.2 a,ky (by rw[g];exact⟨rfl,rfl⟩)⟩
 rw[e]at h;simp only[decide_eq_true_eq,Int.ofNat_inj]at h;exact h
end Go.Proofs.YtldolcbbmnmjoaaGreat
namespace Go.Proofs.YtldolcbbmnmjoaaGreat
open Go.RowKit Go.Sl
attribute [local irreducible] Sl.Own
abbrev cQ.bd(p:cQ):Nat×List UInt8:=(p.dV,p.d.data)
section
variable{m c:Nat}{l l':List cQ}{y y':CJ}
theorem spAll_bd(h:l.map cQ.bd=l'.map cQ.bd):kD m c l=kD m c l':=by
 have e:∀l:List cQ,kD m c l=(l.map cQ.bd).foldl (λP p=>sy P (cJ m c p.1).row (cJ m c p.1).av p.2) []:=λl=>by unfold kD;rw[List.foldl_map]
 rw[e,e,h]
theorem putB_bd(h:l.map cQ.bd=l'.map cQ.bd)(B:Nat->List UInt8):hU l B=hU l' B:=by
 have e:∀(l:List cQ)(b:Nat),w5 l b=((l.map cQ.bd).reverse.find? λp=>decide (p.1=b)).map (·.2):=λl b=>by
  unfold w5;rw[<-List.map_reverse,List.find?_map,qY];rfl
 funext b;unfold hU;rw[e,e,h]
theorem mostL_bd(h:l.map cQ.bd=l'.map cQ.bd):dF m c l=dF m c l':=by unfold dF;rw[spAll_bd h]
def VT(m c:Nat)(P:List (Int×List (Int×List UInt8))):Nat:=((ey (P.map (·.1))).map λr=>rdQ m c ⟨none,0,(ey (((fj P r).getD []).map (·.1))).map λk=>⟨k,r,BM⟩⟩).sum
abbrev aj.mq0(p:aj):Int×Int:=(p.av,p.row)
theorem rdQ_mr{q a:cu}(h:q.aA.map aj.mq0=a.aA.map aj.mq0):rdQ m c q=rdQ m c a:=by
 have e:∀q:cu,rdQ m c q=(lD m (eD m ((((q.aA.map aj.mq0).headD (0,0)).2.toNat)/c)) ((q.aA.map aj.mq0).map (·.1)) (xw m (q.aA.map aj.mq0).length)).length:=λq=>by
  unfold rdQ rdN rowQ;rw[FZ,FZ,ew,ew];cases q.aA<;>rfl
 rw[e,e,h]
theorem fJ.rd_is(h:fJ m c l y):rdS m c y.out=VT m c (kD m c l):=by
 have j:y.out.map (rdQ m c)=(ey (y.S.map (·.row))).map λr=>rdQ m c ⟨none,0,gH y.S r⟩:=by
  have:=JB (List.map λps=>rdQ m c ⟨none,0,ps⟩) h.out;rw[FZ,FZ]at this;exact this
 unfold rdS VT;rw[j,h.ok.rows];congr 1;refine Mx λr o=>rdQ_mr ?_;obtain⟨t,d,rfl⟩:=fG.1 (pV.1 o);have e:=h.ok.each t d;have g:kh y.S t.row=t.es:=by
  unfold kh;rw[kS (l:=y.S.map λs=>(s.row,s.es)) (by rw[FZ];exact h.ok.one) (fG.2 ⟨t,d,rfl⟩)];rfl
 have i:fj (kD m c l) t.row=some (t.es.map λx=>(x.1,x.2.d.data)):=by
  rw[<-h.ok.pl];exact kS (by rw[FZ];exact h.ok.one) (fG.2 ⟨t,d,rfl⟩)
 show(gH y.S t.row).map _=_;unfold gH;rw[g,i,FZ,FZ];show _=(ey ((t.es.map λx=>(x.1,x.2.d.data)).map (·.1))).map _;rw[FZ];refine Mx λk n=>?_;obtain⟨x,f,rfl⟩:=fG.1 (pV.1 n);obtain⟨a,b,_⟩:=e.of x f;show(((fj t.es x.1).getD TX).av,((fj t.es x.1).getD TX).row)=(x.1,t.row);rw[kS e.one f];show(x.2.av,x.2.row)=_;rw[a,b]
theorem fJ.US(h:fJ m c l y)(a:fJ m c l' y')(e:l.map cQ.bd=l'.map cQ.bd):rdS m c y.out=rdS m c y'.out:=by rw[h.rd_is,a.rd_is,spAll_bd e]
theorem rdS_le(m c:Nat)(out:List cu):rdS m c out<=out.length*m:=by
  unfold rdS;induction out with
  |nil=>exact c7 _
  |cons q r b=>
    have a:rdQ m c q<=m:=by
      have e:=@List.length_range m;unfold rdQ rdN lD;split
      · exact RB (uy _ _) (by omega)
      · split
        · exact RB (uy _ _) (by omega)
        · exact c7 _
    rw[BI,List.sum_cons,tc,Nat.succ_mul];omega
end
end Go.Proofs.YtldolcbbmnmjoaaGreat
namespace Go.Proofs.YtldolcbbmnmjoaaGreat
open Go.RowKit Go.Sl
attribute [local irreducible] Sl.Own
def fe(B:Nat->List UInt8)(n:Nat):List UInt8:=(List.range n).flatMap B
theorem lk{B:Nat->List UInt8}{n:Nat}(h:∀b,b<n->(B b).length=128):(fe B n).length=n*128:=by
 unfold fe;rw[cW (List.range n) λa c=>h a (HC.1 c),KN]
theorem tD{α:Type}(f:Nat->α)(n j:Nat)(x:α)(c:j<n):((List.range n).map f).set j x=(List.range n).map λi=>if i=j then x else f i:=by
 refine E6 (by simp) λi a b=>?_;rw[List.getElem_set,Jz,Jz,List.getElem_range];by_cases e:j=i
 · rw[lam e,lam e.symm]
 · rw[aE e,aE λq=>e q.symm]
theorem Le{B:Nat->List UInt8}{n b:Nat}{d:List UInt8}(h:∀b,b<n->(B b).length=128)(c:b<n)(l:d.length=128):(fe B n).take (b*128)++d++(fe B n).drop (b*128+128)=fe (λi=>if i=b then d else B i) n:=by
 have e:fe B n=((List.range n).map B).flatMap λx=>x:=by unfold fe;rw[List.flatMap_map]
 have f:fe (λi=>if i=b then d else B i) n=((List.range n).map λi=>if i=b then d else B i).flatMap λx=>x:=by unfold fe;rw[List.flatMap_map]
 rw[e,f,wI (g:=λx:List UInt8=>x) d _ b (by simp;exact c) (λa j=>by
  obtain⟨i,k,rfl⟩:=fG.1 j;exact h i (HC.1 k)),tD B n b d c]
theorem FW(l:List cQ)(p:cQ)(b:Nat):w5 (l++[p]) b=if b=p.dV then some p.d.data else w5 l b:=by
 unfold w5;rw[SR,List.reverse_singleton,List.singleton_append,List.find?_cons];by_cases e:p.dV=b
 · rw[ky e,lam e.symm];rfl
 · rw[gx e,aE λq=>e q.symm]
theorem JT(l:List cQ)(p:cQ)(B:Nat->List UInt8):hU (l++[p]) B=λb=>if b=p.dV then p.d.data else hU l B b:=funext λb=>by
 unfold hU;rw[FW];split<;>rfl
theorem Hh{m c:Nat}(b:3<=m)(a:1<=c)(B:Nat->List UInt8)(k q:Nat):kI m c (fy m c B) k q=(List.range q).flatMap λj=>B (k+j):=by
 unfold kI;congr 1;funext j;exact Qh b a (k+j)
theorem C5{m c:Nat}(b:3<=m)(a:1<=c)(B:Nat->List UInt8)(q:Nat):kI m c (fy m c B) 0 q=fe B q:=by
 rw[Hh b a];unfold fe;congr 1;funext j;rw[PA]
def td(A:List UInt8)(o:Nat)(x:UInt8)(j:Nat):List UInt8:=A.take o++List.replicate j x++A.drop (o+j)
theorem Mv{A:List UInt8}{o j:Nat}(x:UInt8)(h:o+j<=A.length):(td A o x j).length=A.length:=by
 unfold td;rw[c9,c9,j1,j0,CC];omega
theorem Mw{A:List UInt8}{o j:Nat}(x:UInt8)(h:o+j<A.length):(td A o x j).set (o+j) x=td A o x (j+1):=by
 unfold td;rw[lx,KR _ _ (by rw[j1];omega),j1,Nat.min_eq_left zO,Nat.add_sub_cancel_left,KR _ _ (by rw[j0];exact eI _),j0,E7,vE h,List.set_cons_zero,List.replicate_succ',lx,lx];rfl
theorem JA(A:List UInt8)(o:Nat)(x:UInt8):td A o x 0=A:=by unfold td;simp
abbrev oQ(l:List cQ)(n:Nat):List Bool:=(List.range n).map λb=>decide (∃q∈l,q.dV=b)
abbrev pe(m c:Nat)(l:List cQ)(n:Nat):List Bool:=(List.range n).map λr=>decide (∃q∈l,(cJ m c q.dV).row=r)
theorem Jt(l:List cQ)(p:cQ)(n:Nat)(h:p.dV<n):(oQ l n).set p.dV true=oQ (l++[p]) n:=by
 unfold oQ;rw[tD _ _ _ _ h];refine Mx λi _=>?_;by_cases e:i=p.dV
 · rw[lam e,ky ⟨p,by simp,e.symm⟩]
 ·
  rw[aE e,cN];constructor
  · rintro⟨q,hq,g⟩;exact⟨q,List.mem_append_left _ hq,g⟩
  ·
   rintro⟨q,hq,g⟩;rcases l0.1 hq with hq|hq
   · exact⟨q,hq,g⟩
   · rw[ju.1 hq]at g;exact lcs g.symm e
theorem J7(m c:Nat)(l:List cQ)(p:cQ)(n:Nat)(h:(cJ m c p.dV).row<n):(pe m c l n).set (cJ m c p.dV).row true=pe m c (l++[p]) n:=by
 unfold pe;rw[tD _ _ _ _ h];refine Mx λi _=>?_;by_cases e:i=(cJ m c p.dV).row
 · rw[lam e,ky ⟨p,by simp,e.symm⟩]
 ·
  rw[aE e,cN];constructor
  · rintro⟨q,hq,g⟩;exact⟨q,List.mem_append_left _ hq,g⟩
  ·
   rintro⟨q,hq,g⟩;rcases l0.1 hq with hq|hq
   · exact⟨q,hq,g⟩
   · rw[ju.1 hq]at g;exact lcs g.symm e
structure sG where
  m:Nat
  c:Nat
  s:Nat
  ring:Nat
  lazy:Bool
  r:Nat
  w:Option Addr×Nat
  wb:List UInt8
  bf:Option Addr×Nat×Nat
  there:Bool
  last:Nat
abbrev sG.nb(X:sG):Nat:=X.s*X.c* (X.m-1)
abbrev sG.cells(X:sG):List Value:=[ii X.m,ii X.c,ii X.s,ii X.ring,.bool X.lazy,eE X.r,.slice X.w.1 X.wb.length X.w.2,.slice X.bf.1 X.bf.2.1 X.bf.2.2,.slice none 0 0,ii X.nb,ii (-1),.bool false,.bool X.there,i6 X.last,.bool false]
abbrev kQ(p:Nat)(X:sG)(R:List ab):List ab:=Row p 42 X.cells::b8 X.w X.wb::R
structure sG.ok(X:sG):Prop where
  m:3<=X.m/\X.m<=16
  c:1<=X.c/\X.c<=16
  s:1<=X.s/\X.s<=256
  nb:X.nb<=40000
  ring:X.ring<=2048
abbrev vT(x:Option Addr×Nat)(l:List cQ):ab:=Sl.Own 68 2 (.slice x.1 l.length x.2) l.length (putCells l)
structure S6 where
  l:List cQ
  po:Option Addr×Nat
  ao:Option Addr×Nat
structure Qn(X:sG)(l:List cQ):Prop where
  len:l.length<=100
  dV:∀p∈l,p.dV<X.nb
  n:∀p∈l,p.d.data.length=128
abbrev sJ.bd(nb:Nat)(b:sJ):Nat×List UInt8:=(b.b%nb,List.replicate 128 (UInt8.ofNat b.f))
def cnL(nb:Nat)(l:List sJ):List (Nat×List UInt8):=(l.take 100).map (sJ.bd nb)
def cnE(nb:Nat)(l:List sJ):List cQ:=(cnL nb l).map λq=>⟨q.1,⟨none,128,q.2⟩⟩
theorem cnE_bd(nb:Nat)(l:List sJ):(cnE nb l).map cQ.bd=cnL nb l:=by unfold cnE;rw[FZ];exact List.map_id _
theorem take_bd{nb i:Nat}{l:List sJ}{pl:List cQ}(h:pl.map cQ.bd=(l.take i).map (sJ.bd nb))(a:i<l.length){p:cQ}(e:p.bd=l[i].bd nb):(pl++[p]).map cQ.bd=(l.take (i+1)).map (sJ.bd nb):=by
 rw[jv,List.map_singleton,h,e,nZ a,jv,List.map_singleton]
abbrev QV(p:Nat)(X:sG)(B:Nat->List UInt8)(l:List cQ)(a ao:Option Addr×Nat)(R:List ab):List ab:=vT a l::cP (l.map cQ.d)::b8 ao (fe (hU l B) X.nb)::kQ p X R
theorem BJ{m c:Nat}(b:3<=m)(a:1<=c)(l:List cQ):dF m c l<=2*l.length:=by
  induction l using lH with
  |nil=>exact eI _
  |snoc l p f=>
    rw[An b a,c9,ie];have d:(if ∃q∈l,q.dV=p.dV then 0 else 1)<=1:=by split<;>decide
    have e:(if ∃q∈l,(cJ m c q.dV).row=(cJ m c p.dV).row then 0 else 1)<=1:=by split<;>decide
    omega
abbrev S5(p:Nat)(X:sG)(pl a:List cQ)(e f g:Nat)(x:UInt8)(d:Addr)(pc b:Nat)(A:List UInt8)(c:Option Addr×Nat)(cs:List Value)(k:Nat)(D:List aU)(R:List ab):List ab:=
  b8 (ik g,128) (List.replicate 128 x)::Sl.Own 5 1 (.slice (some d) b pc) b (bytes A)::Sl.Own 4 1 (.slice (ik e) X.nb X.nb) X.nb (cT (oQ pl X.nb))::Sl.Own 4 1 (.slice (ik f) (X.s*X.c:Nat) (X.s*X.c:Nat)) (X.s*X.c) (cT (pe X.m X.c a (X.s*X.c)))::Sl.Own 68 2 (.slice c.1 k c.2) k cs::cP D::kQ p X R
theorem NU{m c s b:Nat}(e:3<=m)(d:1<=c)(a:b<s*c* (m-1)):(cJ m c b).row<s*c:=(BV e d a).1
section
variable{W:World}{R:List ab}
theorem NV{p:Nat}{X:sG}{B:Nat->List UInt8}{bo:Option Addr}{bc:Nat}{l:List sJ}(hX:X.ok)(hB:∀b,b<X.nb->(B b).length=128)(G:X.wb=fe B X.nb)(hl:A7 W bo l):
  aq W Tryz.prog 9 [eE p,.slice bo l.length bc] (kQ p X R) (β:=S6) (λy=>Qn X y.l/\y.l.map cQ.bd=cnL X.nb l) (λy=>.tuple #[.slice y.po.1 y.l.length y.po.2,.slice y.ao.1 (fe (hU y.l B) X.nb).length y.ao.2,ii ((2*dF X.m X.c y.l+1:Nat):Int)]) (λy=>QV p X B y.l y.po y.ao R):=by
 have hm:=hX.m;have o:=hX.c;have hs:=hX.s;have cS:=hX.nb;have ct:=hl.len;have dc:X.wb.length=X.nb*128:=by rw[G,lk hB]
 refine ze Tryz.func9 Tryz.ntmps9 ?_;refine VO.aR (λw G=>G.aZ 5 1) ?_;refine zq ?_;refine ay.append (k:=0) (m:=X.wb.length) (news:=bytes X.wb) eH rfl rfl .head (λw G=>(show jW w 1 (.slice X.w.1 X.wb.length X.w.2) X.wb.length (bytes X.wb)from jW.own (e:=5) (aQ _) G zm).src eH.tZ) (by simp only[maxLen];omega) (by omega) rfl ?_;intro ao cap;rw[PA X.wb.length,ou];refine zw ?_;refine ay.dd NI rfl rfl rfl ?_ ?_ rfl ?_
 · omega
 · simp only[maxLen];omega
 intro r;refine w ?_;have Y:X.s*X.c<=256*16:=RC hs.2 o.2;have ck:(0:Int)<=(X.s:Int)*X.c/\(X.s:Int)*X.c<=4096:=by rw[<-Int.natCast_mul];exact⟨Int.natCast_nonneg _,Int.ofNat_le.2 Y⟩
 refine zx [] 10 [0,1,2,3,4,5,6,7,8,9,10,11,12] (Sl.Own 4 1 (.slice (ik r) X.nb X.nb) X.nb (List.replicate X.nb (.bool false))::Sl.Own 5 1 (.slice ao X.wb.length cap) X.wb.length (bytes X.wb)::kQ p X R) ?_;refine w ?_;refine VD.re 39 (ii ((X.s*X.c:Nat):Int)) rfl (by congr 1) ?_;refine zq ?_;refine ay.dd NI rfl rfl rfl ?_ ?_ rfl ?_
 · omega
 · simp only[maxLen];omega
 intro t;refine w ?_;have e0:Sl.Own 4 1 (.slice (ik r) X.nb X.nb) X.nb (List.replicate X.nb (.bool false))=Sl.Own 4 1 (.slice (ik r) X.nb X.nb) X.nb (cT (oQ [] X.nb)):=by
  congr 1;unfold cT oQ;rw[FZ];refine E6 (by simp) λi h1 h2=>by simp
 have e1:Sl.Own 4 1 (.slice (ik t) (X.s*X.c:Nat) (X.s*X.c:Nat)) (X.s*X.c) (List.replicate (X.s*X.c) (.bool false))=Sl.Own 4 1 (.slice (ik t) (X.s*X.c:Nat) (X.s*X.c:Nat)) (X.s*X.c) (cT (pe X.m X.c [] (X.s*X.c))):=by
  congr 1;unfold cT pe;rw[FZ];refine E6 (by simp) λi h1 h2=>by simp
 rw[e0,e1,G];refine VC.aR (λw G=>Holds.aZ 68 2 (di (res:=aU.res) G)) ?_
 refine VC.loop (α:=S6×Nat) (λy=>(y.2<=l.length/\y.2<=100/\y.1.l.length=y.2)/\Qn X y.1.l/\y.1.l.map cQ.bd=(l.take y.2).map (sJ.bd X.nb)) (λy=>Sl.Own 4 1 (.slice (ik r) X.nb X.nb) X.nb (cT (oQ y.1.l X.nb))::Sl.Own 4 1 (.slice (ik t) (X.s*X.c:Nat) (X.s*X.c:Nat)) (X.s*X.c) (cT (pe X.m X.c y.1.l (X.s*X.c)))::QV p X B y.1.l y.1.po y.1.ao R)
  (λy=>[(0,eE p),(1,.slice bo l.length bc),(7,.slice y.1.po.1 y.1.l.length y.1.po.2),(8,.slice y.1.ao.1 (fe (hU y.1.l B) X.nb).length y.1.ao.2),(9,.slice (ik r) X.nb X.nb),(10,.slice (ik t) (X.s*X.c:Nat) (X.s*X.c:Nat)),(11,ii ((dF X.m X.c y.1.l:Nat):Int)),(12,ii y.2)]) (λy=>l.length-y.2) rfl (⟨[],(none,0),(ao,cap)⟩,0) ⟨⟨c7 _,c7 _,rfl⟩,⟨c7 _,λq O=>(TW O).elim,λq O=>(TW O).elim⟩,rfl⟩ ae.re ⟨rfl,rfl,rfl,rfl,rfl,rfl,rfl,rfl,trivial⟩ ?_
 rintro⟨⟨pl,po,F⟩,i⟩ ⟨⟨hi,U,bm⟩,z,M⟩;dsimp only at hi U bm z M⊢;have cc:=BJ hm.1 o.1 pl;refine w ?_;have bh:1<=X.nb:=RC (RC hs.1 o.1) (show 1<=X.m-1 by omega);refine zg ?_ ?_<;>intro S
 ·
  have I:i<l.length:=by have:=cI S;omega
  refine w ?_;refine zk ?_ ?_<;>intro P
  ·
   have Z:i<100:=by have:=cI P;omega
   clear S P;obtain⟨M0,bw⟩:∃M0,M0=(Sl.Own 4 1 (.slice (ik r) X.nb X.nb) X.nb (cT (oQ pl X.nb))::Sl.Own 4 1 (.slice (ik t) (X.s*X.c:Nat) (X.s*X.c:Nat)) (X.s*X.c) (cT (pe X.m X.c pl (X.s*X.c)))::QV p X B pl po F R):=⟨_,rfl⟩;have hr:=hl.gz M0;rw[bw]at hr;obtain⟨ba,rfl⟩:=iK hr.nil (by omega);have au:=hl.fit _ (fF I);refine w ?_;refine VC.quiet rfl (by kernel_rfl) (by kernel_rfl) ?_;refine w ?_;((first|apply VO.pure rfl rfl|apply VQ.pure rfl rfl|apply VD.take rfl rfl rfl|(refine VD.end rfl rfl rfl ?_;apply ay.pure));exact af.fH ah rfl rfl hr (zf l i 0 I (by decide));rfl);refine w ?_;refine VQ.re 56 (ii l[i].b) rfl (by rw[IntWalk.i64_in _ ⟨by omega,by omega⟩]) ?_;((first|apply VO.pure rfl rfl|apply VQ.pure rfl rfl|apply VD.take rfl rfl rfl|(refine VD.end rfl rfl rfl ?_;apply ay.pure));exact af.rem (a:=l[i].b) (b:=X.nb) rfl rfl (by omega);rfl);refine w ?_;((first|apply VO.pure rfl rfl|apply VQ.pure rfl rfl|apply VD.take rfl rfl rfl|(refine VD.end rfl rfl rfl ?_;apply ay.pure));exact af.fH ah rfl rfl hr (zf l i 1 I (by decide));rfl);refine zr (s:=ru au.2) (h:=?_);intro c _;refine w ?_;obtain⟨b,S⟩:∃b,b=l[i].b%X.nb:=⟨_,rfl⟩;have bG:=S;have n:b<X.nb:=by rw[S];exact qX _ bh
   obtain⟨x,hx⟩:∃x,x=UInt8.ofNat l[i].f:=⟨_,rfl⟩;obtain⟨d,v⟩:∃d:cQ,d=⟨b,⟨ik c,128,List.replicate 128 x⟩⟩:=⟨_,rfl⟩;have N:d.cells=[ii b,.slice (ik c) 128 128]:=by rw[v];simp[aU.ei]
   rw[<-S,<-hx];((first|apply VO.pure rfl rfl|apply VQ.pure rfl rfl|apply VD.take rfl rfl rfl|(refine VD.end rfl rfl rfl ?_;apply ay.pure));exact af.build Nr rfl (show aC _ _ _=some [ii b,.slice (ik c) 128 128]by simp[aC,bR,Value.cells]);rfl);refine zq ?_;refine ay.buildSlice (cs:=[ii b,.slice (ik c) 128 128]) sA rfl rfl (by simp[Value.cells]) (by simp[Value.cells]) (by decide) rfl ?_;intro nc;refine zq ?_;refine ay.cg sA rfl rfl zh zm rfl (by simp[Value.oneCell']) (by simp only[maxLen];omega) (by omega) rfl ?_;intro D C;refine w ?_;obtain⟨A,hA⟩:∃A,A=fe (hU pl B) X.nb:=⟨_,rfl⟩;have ad:∀b,b<X.nb->(hU pl B b).length=128:=o5 z.n hB;have bt:A.length=X.nb*128:=by rw[hA,lk ad]
   have J:=NU (s:=X.s) hm.1 o.1 n;have cY:b*128+128<=X.nb*128:=by have:=u0 128 (show b+1<=X.nb from n);omega
   rw[<-hA];refine VC.bH (p:=F.1=none->A.length=0) (λw G=>(G.fk (L:=b8 F A:: []) (by(repeat first|exact .refl|(apply aP.cons;focus repeat first|exact .head|apply nW.tail)|exact .nil|apply aP.drop))).bn (.head _)) ?_;intro ch;obtain⟨pa,pc⟩:=F;obtain⟨u,rfl⟩:=iK ch (by omega)
   refine VC.loop (α:=Nat) (λj=>j<=128) (λj=>b8 (ik c,128) (List.replicate 128 x)::Sl.Own 5 1 (.slice (some u) A.length pc) A.length (bytes (td A (b*128) x j))::Sl.Own 4 1 (.slice (ik r) X.nb X.nb) X.nb (cT (oQ pl X.nb))::Sl.Own 4 1 (.slice (ik t) (X.s*X.c:Nat) (X.s*X.c:Nat)) (X.s*X.c) (cT (pe X.m X.c pl (X.s*X.c)))::Sl.Own 68 2 (.slice D (pl.length+1) C) (pl.length+1) (putCells pl++[ii b,.slice (ik c) 128 128])::cP (pl.map cQ.d)::kQ p X R)
    (λj=>[(0,eE p),(1,.slice (some ba) l.length bc),(7,.slice D (pl.length+1:Nat) C),(8,.slice (some u) A.length pc),(9,.slice (ik r) X.nb X.nb),(10,.slice (ik t) (X.s*X.c:Nat) (X.s*X.c:Nat)),(11,ii ((dF X.m X.c pl:Nat):Int)),(12,ii i),(13,ii b),(14,.slice (ik c) 128 128),(15,ii j)]) (λj=>128-j) rfl 0 (c7 _) (by rw[JA];exact ae.re) ⟨rfl,rfl,rfl,rfl,rfl,rfl,rfl,rfl,rfl,rfl,rfl,trivial⟩ ?_
   intro j hj;refine w ?_;refine zk ?_ ?_<;>intro P
   ·
    have bb:j<128:=by have:=cI P;omega
    clear P;have hb1:aV W (b8 (ik c,128) (List.replicate 128 x)::Sl.Own 5 1 (.slice (some u) A.length pc) A.length (bytes (td A (b*128) x j))::Sl.Own 4 1 (.slice (ik r) X.nb X.nb) X.nb (cT (oQ pl X.nb))::Sl.Own 4 1 (.slice (ik t) (X.s*X.c:Nat) (X.s*X.c:Nat)) (X.s*X.c) (cT (pe X.m X.c pl (X.s*X.c)))::Sl.Own 68 2 (.slice D (pl.length+1) C) (pl.length+1) (putCells pl++[ii b,.slice (ik c) 128 128])::cP (pl.map cQ.d)::kQ p X R) 1 (ik c) 128 (bytes (List.replicate 128 x)):=aV.own (aQ _) (.head _) (by simp) (by simp);refine w ?_;have av:(bytes (List.replicate 128 x))[j]?=some (gv x):=by unfold bytes;rw[law,Oe,lam bb];rfl
    ((first|apply VO.pure rfl rfl|apply VQ.pure rfl rfl|apply VD.take rfl rfl rfl|(refine VD.end rfl rfl rfl ?_;apply ay.pure));exact af.rZ ah rfl rfl hb1 av;rfl);refine VO.re 84 (ii ((b*128+j:Nat):Int)) rfl (by congr 1) ?_;refine zw ?_;refine ay.EJ ah rfl rfl rfl rfl zh (by rw[ff,Mv x (by omega)];omega) ?_;rw[show(bytes (td A (b*128) x j)).set (b*128+j) (gv x)=bytes (td A (b*128) x (j+1))by unfold bytes;rw[<-List.map_set,Mw x (by omega)]];refine w ?_;exact VE.round (j+1) bb (by omega) ⟨rfl,rfl,rfl,rfl,rfl,rfl,rfl,rfl,rfl,rfl,b7 rfl (by congr 1),trivial⟩ ae.re
   obtain rfl:j=128:=by have:=dx P;omega
   clear P hj;have bs:bytes (td A (b*128) x 128)=bytes (fe (hU (pl++[d]) B) X.nb):=by
    unfold td;rw[hA,Le ad n (by rw[j0]),JT,v]
   have V:(fe (hU (pl++[d]) B) X.nb).length=A.length:=by
    rw[bt,lk (o5 (λq O=>(l0.1 O).elim (z.n q) λg=>by rw[ju.1 g,v];exact j0) hB)]
   have em:(X.m:Int)-1=((X.m-1:Nat):Int):=by omega
   have Q:1<=(X.m-1)*X.c/\(X.m-1)*X.c<=15*16:=⟨RC (show 1<=X.m-1 by omega) o.1,RC (by omega) o.2⟩;have iE:(0:Int)<=((X.m:Int)-1)*X.c/\((X.m:Int)-1)*X.c<=240:=by rw[em,<-Int.natCast_mul];omega
   have da:b/((X.m-1)*X.c)*X.c<=40000*16:=RC (RB (Nat.div_le_self _ _) (by omega)) o.2;have iq:(0:Int)<=((b/((X.m-1)*X.c):Nat):Int)*X.c/\((b/((X.m-1)*X.c):Nat):Int)*X.c<=640000:=by rw[<-Int.natCast_mul];omega
   have cw:=qX b (show 0<(X.m-1)*X.c from Q.1);have cy:=qX (b% ((X.m-1)*X.c)) (show 0<X.c from o.1);have an:b<=40000:=by omega
   rw[bs];refine w ?_;refine VC.quiet rfl (by kernel_rfl) (by kernel_rfl) ?_;refine w ?_;refine VC.re 16 (ii (((X.m-1)*X.c:Nat):Int)) rfl (by congr 1;rw[em,<-Int.natCast_mul]) ?_;refine w ?_;refine VC.quiet rfl (by kernel_rfl) (by kernel_rfl) ?_;refine w ?_;((first|apply VO.pure rfl rfl|apply VQ.pure rfl rfl|apply VD.take rfl rfl rfl|(refine VD.end rfl rfl rfl ?_;apply ay.pure));exact af.quo (a:=b) (b:=(X.m-1)*X.c) rfl rfl Q.1 (IntWalk.i64_in _ ⟨Int.le_trans (by decide) (Int.natCast_nonneg _),Int.le_trans (Int.ofNat_le.2 (RB (Nat.div_le_self _ _) an)) (by decide)⟩);rfl);refine w ?_;((first|apply VO.pure rfl rfl|apply VQ.pure rfl rfl|apply VD.take rfl rfl rfl|(refine VD.end rfl rfl rfl ?_;apply ay.pure));exact af.rem (a:=b) (b:=(X.m-1)*X.c) rfl rfl Q.1;rfl);refine w ?_;((first|apply VO.pure rfl rfl|apply VQ.pure rfl rfl|apply VD.take rfl rfl rfl|(refine VD.end rfl rfl rfl ?_;apply ay.pure));exact af.rem (a:=b% ((X.m-1)*X.c)) (b:=X.c) rfl rfl o.1;rfl);refine w ?_;refine VO.re 17 (ii (((cJ X.m X.c b).row:Nat):Int)) rfl (by congr 1) ?_;obtain⟨A2,H⟩:∃A2,A2=fe (hU (pl++[d]) B) X.nb:=⟨_,rfl⟩;rw[<-H]at V⊢;refine VO.aR (H':=S5 p X pl pl r t c x u pc A.length A2 (D,C) (putCells pl++[ii b,.slice (ik c) 128 128]) (pl.length+1) (pl.map cQ.d) R) ae.re ?_;have bx:∀(br:List cQ),aV W (S5 p X pl br r t c x u pc A.length A2 (D,C) (putCells pl++[ii b,.slice (ik c) 128 128]) (pl.length+1) (pl.map cQ.d) R) 1 (ik r) X.nb (cT (oQ pl X.nb)):=λbr=>aV.own (zi _) zm (by simp[cT]) (by simp);have bE:aV W (S5 p X pl pl r t c x u pc A.length A2 (D,C) (putCells pl++[ii b,.slice (ik c) 128 128]) (pl.length+1) (pl.map cQ.d) R) 1 (ik t) (X.s*X.c) (cT (pe X.m X.c pl (X.s*X.c))):=aV.own (zi _) zm (by simp[cT]) (by simp);have ca:(cT (oQ pl X.nb))[b]?=some (.bool (decide (∃q∈pl,q.dV=b))):=by
    unfold cT oQ;rw[FZ,law,List.getElem?_range n];rfl
   have cb:(cT (pe X.m X.c pl (X.s*X.c)))[(cJ X.m X.c b).row]?=some (.bool (decide (∃q∈pl,(cJ X.m X.c q.dV).row=(cJ X.m X.c b).row))):=by
    unfold cT pe;rw[FZ,law,List.getElem?_range J];rfl
   ((first|apply VO.pure rfl rfl|apply VQ.pure rfl rfl|apply VD.take rfl rfl rfl|(refine VD.end rfl rfl rfl ?_;apply ay.pure));exact af.rZ ah rfl rfl (bx pl) ca;rfl);refine w ?_;refine VC.join (α:=Unit) (λ_=>True) (λ_=>S5 p X pl pl r t c x u pc A.length A2 (D,C) (putCells pl++[ii b,.slice (ik c) 128 128]) (pl.length+1) (pl.map cQ.d) R) (λ_=>[(0,eE p),(1,.slice (some ba) l.length bc),(7,.slice D (pl.length+1:Nat) C),(8,.slice (some u) A.length pc),(9,.slice (ik r) X.nb X.nb),(10,.slice (ik t) (X.s*X.c:Nat) (X.s*X.c:Nat)),(11,ii ((dF X.m X.c pl+if ∃q∈pl,q.dV=b then 0 else 1:Nat):Int)),(12,ii i),(13,ii b),(14,.slice (ik c) 128 128),(17,ii ((cJ X.m X.c b).row:Nat))]) ?_ ?_
   ·
    intro Q2 jn;by_cases K:∃q∈pl,q.dV=b
    ·
     refine VC.aK rfl rfl (by rw[ky K];rfl) ?_;refine w ?_;refine jn.to () trivial ⟨rfl,rfl,rfl,rfl,rfl,rfl,b7 rfl (by rw[lam K];rfl),rfl,rfl,rfl,rfl,trivial⟩ ae.refl
    ·
     refine VC.cU rfl rfl (by rw[gx K];rfl) ?_;refine w ?_;refine jn.to () trivial ⟨rfl,rfl,rfl,rfl,rfl,rfl,b7 rfl (by rw[aE K];congr 1),rfl,rfl,rfl,rfl,trivial⟩ ae.refl
   intro _ _;refine w ?_;((first|apply VO.pure rfl rfl|apply VQ.pure rfl rfl|apply VD.take rfl rfl rfl|(refine VD.end rfl rfl rfl ?_;apply ay.pure));exact af.rZ ah rfl rfl bE cb;rfl);refine w ?_;obtain⟨n1,bf⟩:∃n1,n1=dF X.m X.c pl+if ∃q∈pl,q.dV=b then 0 else 1:=⟨_,rfl⟩;have cr:n1<=201:=by
    have:(if ∃q∈pl,q.dV=b then 0 else 1)<=1:=by split<;>decide
    omega
   rw[<-bf];refine VC.join (α:=Unit) (λ_=>True) (λ_=>S5 p X pl pl r t c x u pc A.length A2 (D,C) (putCells pl++[ii b,.slice (ik c) 128 128]) (pl.length+1) (pl.map cQ.d) R) (λ_=>[(0,eE p),(1,.slice (some ba) l.length bc),(7,.slice D (pl.length+1:Nat) C),(8,.slice (some u) A.length pc),(9,.slice (ik r) X.nb X.nb),(10,.slice (ik t) (X.s*X.c:Nat) (X.s*X.c:Nat)),(11,ii ((n1+if ∃q∈pl,(cJ X.m X.c q.dV).row=(cJ X.m X.c b).row then 0 else 1:Nat):Int)),(12,ii i),(13,ii b),(14,.slice (ik c) 128 128),(17,ii ((cJ X.m X.c b).row:Nat))]) ?_ ?_
   ·
    intro Q2 jn;by_cases K:∃q∈pl,(cJ X.m X.c q.dV).row=(cJ X.m X.c b).row
    ·
     refine VC.aK rfl rfl (by rw[ky K];rfl) ?_;refine w ?_;refine jn.to () trivial ⟨rfl,rfl,rfl,rfl,rfl,rfl,b7 rfl (by rw[lam K];rfl),rfl,rfl,rfl,rfl,trivial⟩ ae.refl
    ·
     refine VC.cU rfl rfl (by rw[gx K];rfl) ?_;refine w ?_;refine jn.to () trivial ⟨rfl,rfl,rfl,rfl,rfl,rfl,b7 rfl (by rw[aE K];congr 1),rfl,rfl,rfl,rfl,trivial⟩ ae.refl
   intro _ _;refine zw ?_;refine ay.EJ ah rfl rfl rfl rfl zh (by rw[rN,ew,KN];exact n) ?_;refine zw ?_;refine ay.EJ ah rfl rfl rfl rfl zh (by rw[rN,ew,KN];exact J) ?_;refine w ?_;have E:d.dV=b:=by rw[v]
   have s1:(cT (oQ pl X.nb)).set b (.bool true)=cT (oQ (pl++[d]) X.nb):=by
    unfold cT;rw[<-List.map_set,<-E,Jt _ _ _ (by rw[E];exact n)]
   have s2:(cT (pe X.m X.c pl (X.s*X.c))).set (cJ X.m X.c b).row (.bool true)=cT (pe X.m X.c (pl++[d]) (X.s*X.c)):=by
    unfold cT;rw[<-List.map_set,<-E,J7 _ _ _ _ _ (by rw[E];exact J)]
   have s3:n1+(if ∃q∈pl,(cJ X.m X.c q.dV).row=(cJ X.m X.c b).row then 0 else 1)=dF X.m X.c (pl++[d]):=by
    rw[An hm.1 o.1,E,bf]
   have s4:putCells pl++[ii b,.slice (ik c) 128 128]=putCells (pl++[d]):=by
    unfold putCells;rw[E5,List.flatMap_singleton,N]
   rw[s1,s2,s3,s4];refine VE.round (⟨pl++[d],(D,C),(some u,pc)⟩,i+1) ⟨⟨I,Z,by dsimp only;rw[c9,ie,bm]⟩,⟨by dsimp only;rw[c9,ie];omega,λq O=>(l0.1 O).elim (z.dV q) λg=>by rw[ju.1 g,E];exact n,λq O=>(l0.1 O).elim (z.n q) λg=>by rw[ju.1 g,v];exact j0⟩,take_bd M I (by rw[v,hx,bG])⟩ (by dsimp only;omega) ⟨rfl,rfl,b7 rfl (by congr 1;rw[c9];rfl),b7 rfl (by congr 1;rw[<-H,V]),rfl,rfl,rfl,b7 rfl (by congr 1),trivial⟩ ?_;have bk:b8 (ik c,128) (List.replicate 128 x)=aU.res d.d:=by rw[v];rfl
   have ag:Sl.Own 5 1 (.slice (some u) A.length pc) A.length (bytes A2)=b8 (some u,pc) A2:=by unfold b8;rw[V]
   have bp:Sl.Own 68 2 (.slice D (pl.length+1:Nat) C) (pl.length+1) (putCells (pl++[d]))=vT (D,C) (pl++[d]):=by unfold vT;rw[c9];rfl
   refine ae.trans (H':=aU.res d.d::cP (pl.map cQ.d)::b8 (some u,pc) A2::Sl.Own 4 1 (.slice (ik r) X.nb X.nb) X.nb (cT (oQ (pl++[d]) X.nb))::Sl.Own 4 1 (.slice (ik t) (X.s*X.c:Nat) (X.s*X.c:Nat)) (X.s*X.c) (cT (pe X.m X.c (pl++[d]) (X.s*X.c)))::vT (D,C) (pl++[d])::kQ p X R) (by rw[<-bk,<-ag,<-bp];exact ae.re) ?_;show ae W _ (Sl.Own 4 1 (.slice (ik r) X.nb X.nb) X.nb (cT (oQ (pl++[d]) X.nb))::Sl.Own 4 1 (.slice (ik t) (X.s*X.c:Nat) (X.s*X.c:Nat)) (X.s*X.c) (cT (pe X.m X.c (pl++[d]) (X.s*X.c)))::vT (D,C) (pl++[d])::cP ((pl++[d]).map cQ.d)::b8 (some u,pc) (fe (hU (pl++[d]) B) X.nb)::kQ p X R);rw[<-H,jv,List.map_singleton];exact ae.trans (λw G=>du G) ae.re
  ·
   have T:i=100:=by have:=dx P;omega
   refine w ?_;exact VE.done ⟨pl,po,F⟩ rfl ⟨z,by rw[M,T];rfl⟩ (by rw[Int.natCast_add,Int.natCast_mul];rfl) (ae.drop (ae.drop ae.refl))
 ·
  have T:i=l.length:=by have q:¬((i:Nat):Int)<(l.length:Int):=dx S;omega
  refine w ?_;refine w ?_;exact VE.done ⟨pl,po,F⟩ rfl ⟨z,by rw[M,T,SP];unfold cnL;rw[qy (by omega)]⟩ (by rw[Int.natCast_add,Int.natCast_mul];rfl) (ae.drop (ae.drop ae.refl))
end
end Go.Proofs.YtldolcbbmnmjoaaGreat
namespace Go.Proofs.YtldolcbbmnmjoaaGreat
open Go.RowKit Go.Sl
attribute [local irreducible] Sl.Own
structure mf(X:sG)(z:dN)(B:Nat->List UInt8)(n k:Nat)(x:UInt8)(q E C:Nat):Prop where
  rest:Rest z n (fy z.X.m z.X.c B) k x q E C
  m:X.m=z.X.m
  c:X.c=z.X.c
  s:X.s=z.X.s
  ring:X.ring=z.X.ring
  lazy:X.lazy=z.t.Y.lazy
  wb:X.wb=fe B X.nb
  sN:∀b,b<X.nb->(B b).length=128
  ok:X.ok
  there:X.there=true
def Cz(r:Nat)(z:dN):ab:=Sl.star [Row r 72 (kW z).cells,al z.t.Y.b z.t.D,z.O]
section
variable{W:World}{R:List ab}{X:sG}{z:dN}{B:Nat->List UInt8}{p n k q E C:Nat}{x:UInt8}
theorem iT.own{H:List ab}{y:Option Addr×Nat}{l:List cQ}(f:y.1=none->l.length=0)(b:∀e∈l.map cQ.d,e.ok)(a:∀p∈l,p.d.data.length=128)(m1:vT y l∈H)(m2:cP (l.map cQ.d)∈H):iT W H y.1 l:=
 ⟨aV.own (M4 l) m1 (M3 l) f,λp c=>aV.cG m2 (fG.2 ⟨p,c,rfl⟩) (λR d=>aU.gz (b _ (fG.2 ⟨p,c,rfl⟩)) d),a⟩
theorem mf.nb(h:mf X z B n k x q E C):X.nb=z.X.s*z.X.c* (z.X.m-1):=by unfold sG.nb;rw[h.m,h.c,h.s]
def nxM(X:sG)(l:List sJ):Nat:=dF X.m X.c (cnE X.nb l)
def nxB(X:sG)(l:List sJ)(B:Nat->List UInt8):Nat->List UInt8:=if X.ring<2*nxM X l+1 then B else hU (cnE X.nb l) B
def nxU(X:sG)(l:List sJ)(u:Nat):Nat:=if X.ring<2*nxM X l+1\/cnL X.nb l=[]then u else(if 2*nxM X l+1<=X.ring-u then u else 0)+(2*nxM X l+1)
theorem bd_most{pl:List cQ}{l:List sJ}(h:pl.map cQ.bd=cnL X.nb l):dF X.m X.c pl=nxM X l:=by
 unfold nxM;exact mostL_bd (h.trans (cnE_bd _ _).symm)
theorem bd_put{pl:List cQ}{l:List sJ}(h:pl.map cQ.bd=cnL X.nb l)(B:Nat->List UInt8):hU pl B=hU (cnE X.nb l) B:=putB_bd (h.trans (cnE_bd _ _).symm) B
theorem bd_nil{pl:List cQ}{l:List sJ}(h:pl.map cQ.bd=cnL X.nb l):cnL X.nb l=[]↔pl=[]:=by rw[<-h];exact List.map_eq_nil_iff
theorem WrP.used{c:dN}{pl:List cQ}{l:List sJ}(h:WrP z c pl)(g:X.m=z.X.m)(f:X.c=z.X.c)(i:X.ring=z.X.ring)(e:pl.map cQ.bd=cnL X.nb l):c.t.v.used=nxU X l z.t.v.used:=by
 unfold nxU;rw[<-bd_most e,g,f,i];rcases h with⟨a,b⟩|⟨a,b,d,_⟩
 · rw[lam (a.imp id (bd_nil e).2),b]
 · rw[aE (by rintro(q|q);exact lcs a (by omega);exact b ((bd_nil e).1 q)),d]
theorem Kx{U:Option Addr}{bc:Nat}{l:List sJ}(h:mf X z B n k 1 0 E C)(J:z.easy)(hC:C<=900000)(hl:A7 W U l):
  aq W Tryz.prog 7 [eE p,.slice U l.length bc] (kQ p X (kH X.r z R)) (β:=sG×dN×(Nat->List UInt8)) (λy=>(mf y.1 y.2.1 y.2.2 n k 1 0 E (C+4000)/\z.mH y.2.1)/\y.1.r=X.r/\y.2.1.easy/\y.2.2=nxB X l B/\y.2.1.t.v.used=nxU X l z.t.v.used) (λ_=>.bool true) (λy=>kQ p y.1 (kH X.r y.2.1 R)):=by
 have hr:=h.rest;have hm:=h.ok.m;have H:X.lazy=false:=h.lazy.trans J.lz;refine aq.enter Tryz.func7 Tryz.ntmps7 rfl rfl ?_;refine zt (s:=NV (bc:=bc) h.ok h.sN h.wb hl) (h:=?_);rintro⟨pl,D,ao⟩ ⟨i,o⟩;dsimp only at i o⊢;refine w ?_;refine VO.bH (p:=D.1=none->pl.length=0) (λw T=>T.bn (.head _)) ?_;intro Q;refine VO.bH (p:=∀e∈pl.map cQ.d,e.ok) (λw T=>cP.bH T.tail) ?_;intro S;have P:=BJ hm.1 h.ok.c.1 pl;have G:pl.length<=100:=i.len;refine VO.re 27 (.slice D.1 pl.length D.2) rfl rfl ?_;obtain⟨A,K⟩:∃A:mz,A=⟨2,0,0,0,D.1,pl.length,D.2,none,0,0⟩:=⟨_,rfl⟩;refine VO.pure rfl rfl (af.build sb_58 rfl (show aC _ _ _=some A.cells by rw[K];simp[aC,bR,Value.cells])) rfl ?_;have F:=Qu (W:=W) (R:=b8 ao (fe (hU pl B) X.nb)::kQ p X R) (r:=X.r) (L:=[vT D pl,cP (pl.map cQ.d)]) (A:=A) (l:=pl) hr J (by have:pl.length<=100:=G;omega) (λR=>by rw[K];exact iT.own Q S i.n (.head _) (.tail _ (.head _))) (by rw[K]) (λq hq=>by rw[<-h.nb];exact i.dV q hq) (by rw[<-h.nb];exact h.sN) hC (by rw[K]);rw[<-h.m,<-h.c,<-h.ring]at F;refine zr (s:=F) (h:=?_);intro u c;refine zw ?_;refine ay.aB xZ rfl ?_;intro n9;refine zw ?_;refine ay.gL (vs:=cn ((if X.ring<2*dF X.m X.c pl+1 then 122 else 0:Nat):Int) dh (eU z.t.D u.t.D)) ah rfl rfl rfl rfl (cL rfl) zh (by simp) ?_;have aa:X.nb=u.X.s*u.X.c* (u.X.m-1):=by rw[h.nb,c.1.2.m,c.1.2.c,c.1.2.s]
 have v:=c.2.2.2.used h.m h.c h.ring o;have d:∀m,(if X.ring<2*dF X.m X.c pl+1 then B else hU pl B)=m->m=nxB X l B:=λm e=>by
  unfold nxB;rw[<-e,bd_most o,bd_put o]
 have a:∀(j:sG)(m:Nat->List UInt8),j.m=X.m->j.c=X.c->j.s=X.s->j.ring=X.ring->j.lazy=X.lazy->j.there=true->j.wb=fe m X.nb->(∀b,b<X.nb->(m b).length=128)->(if X.ring<2*dF X.m X.c pl+1 then B else hU pl B)=m->mf j u m n k 1 0 E (C+4000):=λj m M N O V Z e6 e7 e8 e9=>by
  have f:j.nb=X.nb:=by unfold sG.nb;rw[M,N,O]
  have g:=c.1.1;rw[e9,h.m,h.c,<-c.1.2.m,<-c.1.2.c]at g;exact⟨g,by rw[M,h.m,c.1.2.m],by rw[N,h.c,c.1.2.c],by rw[O,h.s,c.1.2.s],by rw[V,h.ring,c.1.2.ring],by rw[Z,h.lazy,c.1.2.lazy],by rw[f];exact e7,by rw[f];exact e8,⟨by rw[M];exact h.ok.m,by rw[N];exact h.ok.c,by rw[O];exact h.ok.s,by rw[f];exact h.ok.nb,by rw[V];exact h.ok.ring⟩,e6⟩
 by_cases t:X.ring<2*dF X.m X.c pl+1
 ·
  rw[lam t]at a d⊢;refine w ?_;exact VE.done ({X with last:=122},u,B) rfl ⟨⟨a _ _ rfl rfl rfl rfl rfl h.there h.wb h.sN rfl,c.1.2⟩,rfl,c.2.2.1,d _ rfl,v⟩ (by rw[gx (by omega)];rfl) ae.re
 ·
  rw[aE t]at a d⊢;refine w ?_;refine VC.aK rfl rfl (by rw[ky (by omega)];rfl) ?_;refine w ?_;by_cases I:pl=[]
  ·
   subst I;refine VC.aK rfl rfl (rfl) ?_;refine w ?_;exact VE.done ({X with last:=0},u,B) rfl ⟨⟨a _ _ rfl rfl rfl rfl rfl h.there h.wb h.sN rfl,c.1.2⟩,rfl,c.2.2.1,d _ rfl,v⟩ rfl ae.re
  ·
   have Y:=CD.2 I;refine VC.cU rfl rfl (ky (by omega)) ?_;refine w ?_;refine VC.aK rfl rfl (H) ?_;refine w ?_;exact VE.done ({X with last:=0,bf:=(none,0,0),w:=ao,wb:=fe (hU pl B) X.nb},u,hU pl B) rfl ⟨⟨a _ _ rfl rfl rfl rfl rfl h.there rfl (o5 i.n h.sN) rfl,c.1.2⟩,rfl,c.2.2.1,d _ rfl,v⟩ rfl ae.re
theorem Rg{β:Type}{g:FuncId}{args:List Value}{A:β->Prop}{b:β->Value}{f:β->dN}{r:Nat}{T:β->List ab}(h:∀R,aq W Tryz.prog g args (kH r z R) A b (λy=>T y++kH r (f y) R)):∀R,aq W Tryz.prog g args (Cz r z::R) A b (λy=>(T y++[Cz r (f y)])++R):=λR=>
 fX (λw a=>a.join) (aq.mono (h R) (λy=>y) (λ_ h=>h) (λ_ _=>rfl) (λy _ w a=>by
  have c:Holds W (Row r 72 (kW (f y)).cells::al (f y).t.Y.b (f y).t.D::(f y).O::(R++T y)) w:=a.perm (List.perm_append_comm (l₁:=T y) (l₂:=kH r (f y) R));have d:Holds W (Cz r (f y)::(R++T y)) w:=c.nest (L:=[Row r 72 (kW (f y)).cells,al (f y).t.Y.b (f y).t.D,(f y).O]);refine d.perm ?_;rw[lx];exact(List.perm_append_comm (l₁:=Cz r (f y)::R) (l₂:=T y))))
end
end Go.Proofs.YtldolcbbmnmjoaaGreat
namespace Go.Proofs.YtldolcbbmnmjoaaGreat
open Go.RowKit Go.Sl
attribute [local irreducible] Sl.Own
section
variable{W:World}{R:List ab}
def xx(b m c s ring:Nat)(lazy:Bool)(z:CI):dN:=⟨z.a,z.r,z.w,z.X b m c s ring lazy,z.t,(none,0),[]⟩
theorem MK{b m c s ring:Nat}{lazy:Bool}{z:CI}(k:3<=m/\m<=16)(j:1<=c/\c<=16)(o:1<=s/\s<=256)(n:5<=ring/\ring<=2048)(h:KY b m c s ring 0 lazy z):Rest (xx b m c s ring lazy z) (m+1) (fy m c λ_=>dC) 0 1 0 1 70000/\(xx b m c s ring lazy z).calm/\(xx b m c s ring lazy z).t.Y.wo=none/\(xx b m c s ring lazy z).t.v.used=0:=by
 have a:z.t.Y.b=b/\z.t.Y.m=m/\z.t.Y.c=c/\z.t.Y.s=s/\z.t.Y.lazy=lazy:=⟨(JB eA.b h.Y:),(JB eA.m h.Y:),(JB eA.c h.Y:),(JB eA.s h.Y:),(JB eA.lazy h.Y:)⟩;have f:bU (z.X b m c s ring lazy)=List.replicate m (-1):=by
  show(List.replicate m (1:UInt8)).map (nC _)=_;rw[List.map_replicate];rfl
 rw[KB];have d:(List.replicate m (1:UInt8)).length=m:=j0;refine⟨⟨⟨⟨k,j,o,d,λx p=>.inl (Og p),c7 _⟩,rfl,rfl,rfl,a.1.symm,⟨a.2.1,a.2.2.1,a.2.2.2.1⟩,h.size.symm,?_,.inl ⟨(h.ok.nil h.wl).1,h.wl⟩,a.2.2.2.2.symm⟩,rfl,n,by show(1:Nat)<_;decide,⟨eI _,eI _⟩,⟨eI _,eI _⟩,?_,by have:=h.mx;show z.t.c<=_;omega,rfl,⟨by show 0<m;omega,?_,rfl,.inl ⟨rfl,rfl⟩⟩,λi g _=>?_,⟨1,⟨eI _,eI _⟩,λi g _=>h.sr i g⟩⟩,⟨h.wl,h.cy,h.sure⟩,(h.ok.nil h.wl).1,by show z.t.v.used=0;rw[h.ok.live.used,h.cy];rfl⟩
 ·
  show z.t.ok (m+1) z.w (bU (z.X b m c s ring lazy)) _;rw[f];exact h.ok
 ·
  show(List.replicate m (1:UInt8)).length<=z.sc;rw[d];exact h.cap
 ·
  show List.replicate m (1:UInt8)=(List.replicate m 1).set 0 1;refine E6 (by simp) λi r u=>?_;rw[List.getElem_set,List.getElem_replicate,ite_self]
 ·
  obtain⟨q,e,l⟩:=h.len i g;exact⟨q,e,by rw[l];exact eI _⟩
theorem Ng{m c s ring:Nat}{lazy:Bool}(f:3<=m/\m<=16)(b:1<=c/\c<=16)(h:1<=s/\s<=256)(j:5<=ring/\ring<=2048):
  aq W Tryz.prog 14 [.agg (cv m c s).toArray,ii ring,.bool lazy] R (β:=Nat×dN) (λy=>(Rest y.2 (m+1) (fy m c λ_=>dC) 0 1 0 1 70000/\y.2.calm)/\y.2.X.m=m/\y.2.X.c=c/\y.2.X.s=s/\y.2.X.ring=ring/\y.2.t.Y.lazy=lazy/\y.2.t.Y.wo=none/\y.2.t.v.used=0) (λy=>.tuple #[eE y.1,i6 0]) (λy=>kH y.1 y.2 R):=by
 have l:s*c<=256*16:=RC h.2 b.2;refine aq.mono (Ni (W:=W) (R:=R) (PJ lazy f b h j) (RN (m:=m) (n:=1+s*c) (z:=2+ring) (by omega) (by omega)) (NO f.2 (by omega) (by omega))) (λy=>(y.r,xx y.b m c s ring lazy y.z)) (λy a=>have g:=MK f b h j a;⟨⟨g.1,g.2.1⟩,rfl,rfl,rfl,rfl,(JB eA.lazy a.Y:),g.2.2⟩) (λ_ _=>rfl) (λy a=>?_);have k:y.z.t.Y.b=y.b:=(JB eA.b a.Y:);have e:bU (xx y.b m c s ring lazy y.z).X=List.replicate m (-1):=by
  show(List.replicate m (1:UInt8)).map (nC _)=_;rw[List.map_replicate];rfl
 show ae W _ (Row y.r 72 (kW (xx y.b m c s ring lazy y.z)).cells::al y.z.t.Y.b y.z.t.D::Sl.star (xx y.b m c s ring lazy y.z).L::R);have d:(y.X m c s).cells=(kW (xx y.b m c s ring lazy y.z)).cells:=by
  show qJ.cells ⟨y.b,ik y.z.a,s*c,m,c,s⟩=qJ.cells ⟨y.z.t.Y.b,ik y.z.a,s*c,m,c,s⟩;rw[k]
 rw[d];refine ae.trans (λw i=>Holds.aZ 207 3 (di (res:=aj.res) i)) ?_;refine ae.trans (H':=(xx y.b m c s ring lazy y.z).L++(Row y.r 72 (kW (xx y.b m c s ring lazy y.z)).cells::al y.z.t.Y.b y.z.t.D::R)) ?_ (λw i=>(ae.re:ae W (Sl.star (xx y.b m c s ring lazy y.z).L::(Row y.r 72 (kW (xx y.b m c s ring lazy y.z)).cells::al y.z.t.Y.b y.z.t.D::R)) _) w i.nest);rw[<-e];exact ae.re
theorem Iq(n:Nat):fe (λ_=>dC) n=List.replicate (n*128) 0:=by
 unfold fe;induction n with
 |zero=>rfl
 |succ n a=>rw[KQ,E5,a,Nat.succ_mul,List.flatMap_singleton,<-List.replicate_append_replicate]
theorem IJ{p:dy}(h:p.wf W)(B:S0 p):aq W Tryz.prog 5 [.agg p.cells.toArray] R (β:=Nat×sG×dN) (λy=>mf y.2.1 y.2.2 (λ_=>dC) (p.gm+1) 0 1 0 1 70000/\(y.2.1.m=p.gm/\y.2.1.c=p.gc/\y.2.1.s=p.gs/\y.2.1.ring=p.gr)/\(p.lazy=false->y.2.2.easy)/\y.2.2.t.v.used=0) (λy=>eE y.1) (λy=>kQ y.1 y.2.1 (kH y.2.1.r y.2.2 R)):=by
 have o:3<=p.gm/\p.gm<=16:=by unfold dy.gm;omega
 have j:1<=p.gc/\p.gc<=16:=by unfold dy.gc;omega
 have k:1<=p.gs/\p.gs<=256:=by have:=h.c;unfold dy.gs;omega
 have t:5<=p.gr/\p.gr<=2048:=by unfold dy.gr;omega
 have A:p.gs*p.gc<=256*16:=RC k.2 j.2;have v:p.gs*p.gc* (p.gm-1)<=32768:=by
  have a:=B.sz;have b:(p.gm*p.gc*p.gs+p.gr)*4<=(p.gm*p.gc*p.gs+p.gr)* (min p.l.length 1000+4):=Nat.mul_le_mul_left _ (by omega);have c:p.gs*p.gc* (p.gm-1)<=p.gm*p.gc*p.gs:=by
   rw[Aj p.gs p.gc,Aj (p.gc*p.gs),<-Nat.mul_assoc];exact u0 _ (u0 _ (Nat.sub_le _ _))
  omega
 have em:(p.gm:Int)-1=((p.gm-1:Nat):Int):=by omega
 have i1:(0:Int)<=(p.gs:Int)*p.gc/\(p.gs:Int)*p.gc<=4096:=by rw[<-Int.natCast_mul];exact⟨Int.natCast_nonneg _,Int.ofNat_le.2 A⟩
 have i2:(0:Int)<=(p.gs:Int)*p.gc* ((p.gm:Int)-1)/\(p.gs:Int)*p.gc* ((p.gm:Int)-1)<=32768:=by rw[em,<-Int.natCast_mul,<-Int.natCast_mul];exact⟨Int.natCast_nonneg _,Int.ofNat_le.2 v⟩
 refine ze Tryz.func5 Tryz.ntmps5 ?_;repeat (refine zj λ_=>?_;refine w ?_)
 rename_i q;refine zt (s:=HU h) (h:=?_);intro _ _;refine w ?_;repeat (refine zj λ_=>?_;refine w ?_)
 refine zq ?_;refine ay.aB AB rfl ?_;intro x;refine w ?_;repeat (refine zj λ_=>?_;refine w ?_)
 refine zS (cv p.gm p.gc p.gs) ?_;repeat (refine zj λ_=>?_;refine w ?_)
 refine VC.aR (H':=Row x 36 (cv p.gm p.gc p.gs)::Row q 25 p.cells::R) ae.re ?_;refine zx [2,5] 10 [0,1,3,4,2,5,6,7,8,9,10] (Row x 36 (cv p.gm p.gc p.gs)::Row q 25 p.cells::R) ?_;refine w ?_;repeat (refine zj λ_=>?_;refine w ?_)
 refine zt (s:=sj h) (h:=?_);intro _ _;refine⟨ae.re,?_⟩;refine w ?_;repeat (refine zj λ_=>?_;refine w ?_)
 refine zt (s:=Ng o j k t) (h:=?_);rintro⟨r,z⟩ l;refine⟨ae.re,?_⟩;refine w ?_;repeat (refine zj λ_=>?_;refine w ?_)
 obtain⟨N,m⟩:∃N,N=p.gs*p.gc* (p.gm-1):=⟨_,rfl⟩;rw[<-m]at v;refine VC.re 6 (ii N) rfl (by rw[m,em,Int.natCast_mul,Int.natCast_mul]) ?_;obtain⟨P,i⟩:∃P:Nat->sG,P=λnb=>⟨p.gm,p.gc,p.gs,p.gr,p.lazy,r,(ik nb,N*128),List.replicate (N*128) 0,(none,0,0),true,0⟩:=⟨_,rfl⟩;have n:∀nb,(P nb).cells=[ii p.gm,ii p.gc,ii p.gs,ii p.gr,.bool p.lazy,eE r,.slice (ik nb) (N*128:Nat) (N*128:Nat),.slice none 0 0,.slice none 0 0,ii N,ii (-1),.bool false,.bool true,i6 0,.bool false]:=λnb=>by
  rw[i];simp only[sG.cells,sG.nb,j0];rw[<-m];rfl
 have f:∀nb,mf (P nb) z (λ_=>dC) (p.gm+1) 0 1 0 1 70000:=λnb=>by
  obtain⟨⟨g1,g2⟩,g3,g4,g5,g6,g7,-⟩:=l;dsimp only at g1 g3 g4 g5 g6 g7;rw[i];exact⟨by rw[g3,g4];exact g1,g3.symm,g4.symm,g5.symm,g6.symm,g7.symm,by show List.replicate (N*128) 0=fe _ (p.gs*p.gc* (p.gm-1));rw[Iq,m],λ_ _=>rfl,⟨o,j,k,by show p.gs*p.gc* (p.gm-1)<=40000;rw[<-m];omega,t.2⟩,rfl⟩
 have d:p.lazy=false->z.easy:=λe=>⟨l.2.2.2.2.2.2.1,l.1.2.wl,l.1.2.sure,l.2.2.2.2.2.1.trans e⟩;have g:∀nb,Sl.Own 5 1 (.slice (ik nb) (N*128:Nat) (N*128:Nat)) (N*128) (List.replicate (N*128) (ib 0))=b8 (P nb).w (P nb).wb:=λnb=>by
  rw[i];show _=Sl.Own 5 1 (.slice (ik nb) (List.replicate (N*128) (0:UInt8)).length (N*128)) (List.replicate (N*128) (0:UInt8)).length (bytes (List.replicate (N*128) 0));rw[j0,dD]
 refine VC.vw [2,8] 10 [0,1,3,4,5,6,7,9] [[2,8,10,11,12],[8,2,10,11,12]] _ rfl (by kernel_rfl) (by kernel_rfl) ae.refl ?_;refine w ?_;repeat (refine zj λ_=>?_;refine w ?_)
 refine VE.vf ?_ ?_
 ·
  refine zt (s:=sj h) (h:=?_);intro _ _;refine⟨ae.re,?_⟩;refine VD.re 40 (ii ((N*128:Nat):Int)) rfl (by congr 1) ?_;refine zq ?_;refine ay.dd eH rfl rfl rfl ?_ ?_ rfl ?_
  · omega
  · simp only[maxLen];omega
  intro nb;refine w ?_;repeat (refine zj λ_=>?_;refine w ?_)
  ((first|apply VO.pure rfl rfl|apply VQ.pure rfl rfl|apply VD.take rfl rfl rfl|(refine VD.end rfl rfl rfl ?_;apply ay.pure));exact af.build QL rfl (show aC _ _ _=some (P nb).cells by rw[n];simp[aC,bR,Value.cells]);rfl);refine w ?_;repeat (refine zj λ_=>?_;refine w ?_)
  rename_i u;rw[g];exact VE.done (u,P nb,z) rfl ⟨f nb,by rw[i];exact⟨rfl,rfl,rfl,rfl⟩,d,l.2.2.2.2.2.2.2⟩ rfl (by rw[i];exact ae.re)
 ·
  refine VD.re 40 (ii ((N*128:Nat):Int)) rfl (by congr 1) ?_;refine zq ?_;refine ay.dd eH rfl rfl rfl ?_ ?_ rfl ?_
  · omega
  · simp only[maxLen];omega
  intro nb;refine⟨ae.re,?_⟩;refine zt (s:=sj h) (h:=?_);intro _ _;refine⟨ae.re,?_⟩;((first|apply VO.pure rfl rfl|apply VQ.pure rfl rfl|apply VD.take rfl rfl rfl|(refine VD.end rfl rfl rfl ?_;apply ay.pure));exact af.build QL rfl (show aC _ _ _=some (P nb).cells by rw[n];simp[aC,bR,Value.cells]);rfl);refine w ?_;repeat (refine zj λ_=>?_;refine w ?_)
  rename_i u;rw[g];exact VE.done (u,P nb,z) rfl ⟨f nb,by rw[i];exact⟨rfl,rfl,rfl,rfl⟩,d,l.2.2.2.2.2.2.2⟩ rfl (by rw[i];exact ae.re)
end
end Go.Proofs.YtldolcbbmnmjoaaGreat
namespace Go.Proofs.YtldolcbbmnmjoaaGreat
open Go.RowKit Go.Sl
attribute [local irreducible] Sl.Own
section
variable{W:World}{R:List ab}
theorem RP(W:World)(R:List ab):oy W R none []:=⟨⟨rfl,λu c=>(by cases c),λ_=>rfl,λw e a b=>(by cases b)⟩,λx d=>(by cases d)⟩
theorem Rest.up{z:dN}{n k E C:Nat}{V:Nat->Nat->List UInt8}(h:Rest z n V k 1 0 E C){j:Nat}(a:j<z.X.m):Rest z n V j 1 0 E C:=
 ⟨h.ok,h.n,h.ring,h.id,h.ev,h.sf,h.cap,h.c,h.lost,h.sh.up a,h.len,h.SS⟩
theorem Ll:aq W Tryz.prog 6 [] R (β:=Unit) (λ_=>True) (λ_=>.bool true) (λ_=>R):=by
 refine ze Tryz.func6 Tryz.ntmps6 ?_;((first|apply VO.pure rfl rfl|apply VQ.pure rfl rfl|apply VD.take rfl rfl rfl|(refine VD.end rfl rfl rfl ?_;apply ay.pure));exact af.build AB rfl (show aC _ _ _=some (cv 3 1 2)by simp[aC,bR,Value.cells]);rfl);refine zt (s:=Ng (m:=3) (c:=1) (s:=2) (ring:=10) (lazy:=false) (by decide) (by decide) (by decide) (by decide)) (h:=?_);rintro⟨r,z⟩ ⟨⟨K,t⟩,n,v,N,X,Y,Z,-⟩;dsimp only at K t n v N X Y Z⊢;refine zr (s:=ru (f:=7) (by decide)) (h:=?_);intro x _;refine w ?_;obtain⟨D,P⟩:∃D,D=List.replicate 128 (UInt8.ofNat 7):=⟨_,rfl⟩;rw[<-P];have i:D.length=128:=by rw[P];exact j0
 obtain⟨u,b⟩:∃u:cQ,u=⟨1,⟨ik x,128,D⟩⟩:=⟨_,rfl⟩;((first|apply VO.pure rfl rfl|apply VQ.pure rfl rfl|apply VD.take rfl rfl rfl|(refine VD.end rfl rfl rfl ?_;apply ay.pure));exact af.build Nr rfl (show aC _ _ _=some [ii 1,.slice (ik x) 128 128]by simp[aC,bR,Value.cells]);rfl);refine zq ?_;refine ay.buildSlice (cs:=[ii 1,.slice (ik x) 128 128]) sA rfl rfl (by simp[Value.cells]) (by simp[Value.cells]) (by decide) rfl ?_;intro nc;obtain⟨A,M⟩:∃A:mz,A=⟨2,0,0,0,ik nc,1,1,none,0,0⟩:=⟨_,rfl⟩;((first|apply VO.pure rfl rfl|apply VQ.pure rfl rfl|apply VD.take rfl rfl rfl|(refine VD.end rfl rfl rfl ?_;apply ay.pure));exact af.build sb_58 rfl (show aC _ _ _=some A.cells by rw[M];simp[aC,bR,Value.cells]);rfl);have k:putCells [u]=[ii 1,.slice (ik x) 128 128]:=by rw[b];show[_,Value.slice _ (D.length:Nat) _]=_;rw[i];rfl
 have hm:z.X.ring<2*dF z.X.m z.X.c [u]+1↔False:=by
  rw[n,v,X];have:=BJ (m:=3) (c:=1) (by decide) (by decide) [u];simp only[ie]at this;exact⟨λq=>by omega,False.elim⟩
 have K:Rest z (3+1) (fy z.X.m z.X.c λ_=>dC) 0 1 0 1 70000:=by rw[n,v];exact K
 have G:=Qu (W:=W) (R:=R) (r:=r) (A:=A) (L:=[Row nc 68 [ii 1,.slice (ik x) 128 128],b8 (ik x,128) D]) (l:=[u]) K ⟨Z,t.wl,t.sure,Y⟩ (show 1<=256 by decide) (λR=>by
  rw[M];refine⟨?_,λq E=>?_,λq E=>?_⟩
  · rw[k];exact aV.row (by simp[Value.oneCell']) (.head _) rfl
  · rw[ju.1 E,b];exact aV.own (aQ _) (.tail _ (.head _)) (by simp) (by simp)
  · rw[ju.1 E,b];exact i) (by rw[M];rfl) (λq E=>by rw[ju.1 E,b,n,v,N];show 1<2*1* (3-1);decide) (λ_ _=>rfl) (by decide) (by rw[M])
 simp only[hm,if_false]at G;obtain⟨B,hB⟩:∃B,B=hU [u] λ_=>dC:=⟨_,rfl⟩;have O:B 1=D:=by rw[hB,b];rfl
 rw[<-hB]at G;refine zr (s:=G) (h:=?_);rintro z1 ⟨⟨g1,J⟩,_,g2,_⟩;have g2:z1.t.v.sure=true:=g2.sure;rw[<-J.m,<-J.c]at g1;refine zw ?_;refine ay.aB xZ rfl ?_;intro na;refine zl (cn ((0:Nat):Int) dh (eU z.t.D z1.t.D)) (cL rfl) ?_;obtain⟨A2,a⟩:∃A:mz,A=⟨9,0,0,0,none,0,0,none,0,0⟩:=⟨_,rfl⟩;((first|apply VO.pure rfl rfl|apply VQ.pure rfl rfl|apply VD.take rfl rfl rfl|(refine VD.end rfl rfl rfl ?_;apply ay.pure));exact af.build sb_58 rfl (show aC _ _ _=some A2.cells by rw[a];simp[aC,bR,Value.cells]);rfl);refine zr (s:=LX (r:=r) (A:=A2) (kl:=[]) g1 (by decide) g2 (by decide) (by decide) (by rw[a]) (λR=>by rw[a];exact RP W R) (by rw[a];rfl) (by rw[a];exact Int.le_refl 0)) (h:=?_);rintro z2 ⟨⟨g3,k2⟩,_⟩;refine zw ?_;refine ay.aB xZ rfl ?_;intro nb;refine zl (cn 0 dh (eU z1.t.D z2.t.D)) (cL rfl) ?_;have I:=J.trans k2;obtain⟨T,o⟩:∃A:mz,A=⟨4,1,0,0,none,0,0,none,0,0⟩:=⟨_,rfl⟩;((first|apply VO.pure rfl rfl|apply VQ.pure rfl rfl|apply VD.take rfl rfl rfl|(refine VD.end rfl rfl rfl ?_;apply ay.pure));exact af.build sb_58 rfl (show aC _ _ _=some T.cells by rw[o];simp[aC,bR,Value.cells]);rfl);refine zr (s:=O3 (r:=r) (A:=T) (g3.up (j:=1) (by rw[I.m,n];decide)) (by decide) (by decide) (by rw[o]) (by rw[o];rfl)) (h:=?_);rintro z3 ⟨⟨g4,k3⟩,_⟩;refine zw ?_;refine ay.aB xZ rfl ?_;intro nf;refine zl (cn 0 dh (eU z2.t.D z3.t.D)) (cL rfl) ?_;have d:=I.trans k3;obtain⟨U,g⟩:∃A:mz,A=⟨1,0,1,1,none,0,0,none,0,0⟩:=⟨_,rfl⟩;((first|apply VO.pure rfl rfl|apply VQ.pure rfl rfl|apply VD.take rfl rfl rfl|(refine VD.end rfl rfl rfl ?_;apply ay.pure));exact af.build sb_58 rfl (show aC _ _ _=some U.cells by rw[g];simp[aC,bR,Value.cells]);rfl);have F:=LY (W:=W) (R:=Row nf 55 (cn 0 dh (eU z2.t.D z3.t.D))::Row nb 55 (cn 0 dh (eU z1.t.D z2.t.D))::Row na 55 (cn ((0:Nat):Int) dh (eU z.t.D z1.t.D))::R) (r:=r) (A:=U) g4 1 1 (by rw[d.m,d.c,d.s,n,v,N];decide) (by rw[g]) (by rw[g];rfl) (by rw[g];rfl);rw[J.m,J.c,d.m,d.c,Hh (by rw[n];decide) (by rw[v];decide),show(List.range 1).flatMap (λj=>B (1+j))=D by simp[O]]at F;refine zr (s:=F) (h:=?_);rintro⟨z4,y⟩ ⟨⟨g5,k4⟩,_⟩;dsimp only at g5 k4⊢;refine VO.bH (p:=y.1=none->D.length=0) (λw G=>G.bn (.head _)) ?_;intro Q;refine zw ?_;refine ay.aB xZ rfl ?_;intro nd;refine zl (cn 0 (sliceB y D) (eU z3.t.D z4.t.D)) (cL rfl) ?_;obtain⟨V,C⟩:∃A:mz,A=⟨3,0,0,0,none,0,0,none,0,0⟩:=⟨_,rfl⟩;((first|apply VO.pure rfl rfl|apply VQ.pure rfl rfl|apply VD.take rfl rfl rfl|(refine VD.end rfl rfl rfl ?_;apply ay.pure));exact af.build sb_58 rfl (show aC _ _ _=some V.cells by rw[C];simp[aC,bR,Value.cells]);rfl);have g6:Rest z4 (3+1) (fy z.X.m z.X.c B) 1 2 0 (1+1+1) (70000+4000+3000+40):=g5;refine zr (s:=Te (r:=r) (A:=V) g6 (by decide) (by rw[C])) (h:=?_);rintro z5 _;refine zw ?_;refine ay.aB xZ rfl ?_;intro nl;refine zl (cn 0 dh (eU z4.t.D z5.t.D)) (cL rfl) ?_;refine VC.aR (H':=Row nl 55 (cn 0 dh (eU z4.t.D z5.t.D))::Row nd 55 (cn 0 (sliceB y D) (eU z3.t.D z4.t.D))::Row nf 55 (cn 0 dh (eU z2.t.D z3.t.D))::Row nb 55 (cn 0 dh (eU z1.t.D z2.t.D))::Row na 55 (cn 0 dh (eU z.t.D z1.t.D))::b8 y D::R) ae.re ?_;refine zx [21] 22 [0,1,2,3,4,5,6,7,8,9,10,11,12,13,14,15,16,17,18,19,20,21,22,23,24] _ ?_;refine zt (s:=ru (f:=7) (by decide)) (h:=?_);intro S _;refine⟨ae.re,?_⟩;refine w ?_;rw[<-P];refine VD.re 57 (.slice y.1 128 y.2) rfl (by show Value.slice y.1 D.length y.2=_;rw[i]) ?_;have hs:∀H,b8 y D∈H->b8 (ik S,128) D∈H->az W Tryz.prog 11 [.slice y.1 128 y.2,.slice (ik S) 128 128] H (.bool true) H:=λH m1 m2=>by
  have r1:aV W H 1 y.1 D.length (bytes D):=aV.own (aQ _) m1 (by rw[ff];omega) Q;have r2:aV W H 1 (ik S) D.length (bytes D):=aV.own (aQ _) m2 (by rw[ff];omega) (λe=>by cases e);rw[i]at r1 r2;have:=xV (cap:=y.2) (cap':=128) r1 r2 (by decide);rwa [ky (rfl:D=D)]at this
 refine zt (s:=hs _ zm (.head _)) (h:=?_);intro _ _;refine w ?_;exact VE.done () rfl trivial rfl ae.re
end
end Go.Proofs.YtldolcbbmnmjoaaGreat
namespace Go.Proofs.YtldolcbbmnmjoaaGreat
open Go.RowKit Go.Sl
attribute [local irreducible] Sl.Own
section
variable{W:World}{z:dN}{n k q E C:Nat}{V:Nat->Nat->List UInt8}{x:UInt8}
theorem Rest.wreck{P:(Nat->Nat->List UInt8)->Prop}{c':Nat}{D':aw}(h:Rest z n V k x q E C)(w:Wreck z.t n z.w (bU z.X) P c' D')(kl:List (List Bool)):∃U c,P U/\Rest c n U k x q E c'/\z.mH c/\c.t.D=D'.cut kl/\c.t.v.sure=true/\c.t.D.cut []=c.t.D:=by
 obtain⟨U,t,j,m,e,g,l,i,f,d⟩:=w kl;obtain⟨a,b⟩:=h.to m e (x':=(none,0)) (ps':=t.Y.wl) (.inr ⟨f,rfl⟩) i;exact⟨U,_,j,a,b,g,l,d⟩
def U7(z:dN)(n:Nat)(B:Nat->List UInt8)(l:List cQ)(D1 D':aw):Prop:=∃q,fJ z.X.m z.X.c l q/\∃P,Wreck z.t n z.w (bU z.X) P (z.t.c+9000) D'/\(∀U,P U->U=fy z.X.m z.X.c B\/U=fy z.X.m z.X.c (hU l B))/\
  (D1.c8<=((rdS z.X.m z.X.c q.out+2*dF z.X.m z.X.c l+1:Nat):Int)->∀U,P U->U=fy z.X.m z.X.c B)/\(((rdS z.X.m z.X.c q.out+2*dF z.X.m z.X.c l+3:Nat):Int)<=D1.c8->∀U,P U->U=fy z.X.m z.X.c (hU l B))
theorem ars_wrx{R:List ab}{B:Nat->List UInt8}{l:List cQ}{ao:Option Addr}{cap:Nat}{D1:aw}(h:Rest z n (fy z.X.m z.X.c B) k 1 0 E C)(r:z.easy)(L:Bq2 D1 n z.t.K z.t.c)(T:0<=D1.c8)(u:l≠[])(m:2*dF z.X.m z.X.c l+1<=z.X.ring-z.t.v.used)(O:l.length<=256)(S:iT W R ao l)(M:∀p∈l,p.dV<z.X.s*z.X.c* (z.X.m-1))(K:∀b,b<z.X.s*z.X.c* (z.X.m-1)->(B b).length=128)(hC:C<=900000):
    aq W Tryz.prog 58 [eE z.a,.slice ao l.length cap] (al z.t.Y.b D1::z.O::R) (β:=Option Qp) (λy=>∃v,y=some v/\(v.e=0\/v.e=50)/\U7 z n B l D1 (wrD D1 y)) (λy=>i6 (AwE (z.t.on D1) l y)) (λy=>al z.t.Y.b (wrD D1 y)::z.wrT y::R):=by
  have a:=h.ok.g;have hc:=h.c;have c:=h.ok.ring;have J:=Iy (W:=W) (cap:=cap) (B:=B) (ao:=ao) (l:=l) (D1:=D1) (by rw[a.1,a.2.1];exact h.ok) L ⟨⟨r.wo,r.wl⟩,r.sure,r.lz⟩ (λj row _ g=>((h.sh.gB j row).1 g).2.1 rfl) O S (by rw[a.1,a.2.1,a.2.2];exact M) (by rw[a.1,a.2.1,a.2.2];exact K) (by omega) (.inr (by rw[a.1,a.2.1,<-c];exact m));refine aq.mono J (λy=>y) (λy f=>?_) (λ_ _=>rfl) (λ_ _=>ae.refl);cases y with
  |none=>
    have f:z.t.v.size<2*dF z.t.Y.m z.t.Y.c l+1\/l=[]:=f;rw[a.1,a.2.1,<-c]at f;rcases f with q|q
    · omega
    · exact lcs q u
  |some y=>
    obtain⟨-,-,q,o,f⟩:=f;have o:fJ z.t.Y.m z.t.Y.c l q:=o;have Q:kz q.out=dF z.X.m z.X.c l:=by rw[<-a.1,<-a.2.1];exact o.PH
    have d:z.t.to (z.t.on D1):=⟨rfl,rfl,λi X e=>⟨X,e,λ_=>rfl,λ_ h=>h⟩,eI _⟩;refine⟨y,rfl,f.elim (λg=>.inl g.1) (λg=>.inr g.1),q,by rw[<-a.1,<-a.2.1];exact o,?_⟩;have eV:fy (z.t.on D1).Y.m (z.t.on D1).Y.c B=fy z.X.m z.X.c B:=by show fy z.t.Y.m z.t.Y.c B=_;rw[a.1,a.2.1]
    have t:fy (z.t.on D1).Y.m (z.t.on D1).Y.c (hU l B)=fy z.X.m z.X.c (hU l B):=by show fy z.t.Y.m z.t.Y.c _=_;rw[a.1,a.2.1]
    have I:rdS (z.t.on D1).Y.m (z.t.on D1).Y.c q.out=rdS z.X.m z.X.c q.out:=by show rdS z.t.Y.m z.t.Y.c _=_;rw[a.1,a.2.1]
    rw[eV,t,I,Q]at f;show ∃P,Wreck z.t n z.w (bU z.X) P (z.t.c+9000) y.t.D/\_;rcases f with⟨-,-,A,G,Z,H,F,b6,b7,b8⟩|⟨-,-,-,N⟩
    · have F:y.t.c<=z.t.c+4000:=F
      have b8:=(b8 (by rw[<-c];exact m)).tr T
      have b8:0<=y.t.D.c8/\y.t.D.c8=D1.c8-((rdS z.X.m z.X.c q.out+3*dF z.X.m z.X.c l+3:Nat):Int):=b8
      refine⟨_,((A.rdark H A.q.toBq0 (eI _)).mono (by omega)).to (d.trans G) λ_ g=>g,λU g=>.inr g,λg=>by omega,λ_ U g=>g⟩
    · have s:(z.t.on D1).D=D1:=rfl
      rcases N with g|⟨g1,g⟩|⟨g1,g⟩
      · have:=g.lt
        rw[s]at this
        exact⟨_,g.is.to d λ_ g=>g,λU g=>.inl g,λ_ U g=>g,λg=>by omega⟩
      · have:=g.lt
        rw[s]at this g1
        exact⟨_,g.is.to d λ_ g=>g,λU g=>g,λg=>by omega,λg=>by omega⟩
      · rw[s]at g1
        exact⟨_,g.is.to d λ_ g=>g,λU g=>.inr g,λg=>by omega,λ_ U g=>g⟩
end
end Go.Proofs.YtldolcbbmnmjoaaGreat
namespace Go.Proofs.YtldolcbbmnmjoaaGreat
open Go.RowKit Go.Sl
attribute [local irreducible] Sl.Own
section
variable{W:World}{R:List ab}{z:dN}{n k q E C r:Nat}{V:Nat->Nat->List UInt8}{x:UInt8}{A:mz}
abbrev RgX(r:Nat)(z:dN)(D:aw)(S:ab)(R:List ab):List ab:=Row r 72 (kW z).cells::al z.t.Y.b D::S::R
theorem do_wrx{L:List ab}{B:Nat->List UInt8}{l:List cQ}{D1:aw}(h:Rest z n (fy z.X.m z.X.c B) k 1 0 E C)(K:z.easy)(F:Bq2 D1 n z.t.K z.t.c)(J:0<=D1.c8)(j:l≠[])(i:2*dF z.X.m z.X.c l+1<=z.X.ring-z.t.v.used)(H:l.length<=256)(I:∀R,iT W (L++R) A.po l)(m:A.pl=l.length)(G:∀p∈l,p.dV<z.X.s*z.X.c* (z.X.m-1))(u:∀b,b<z.X.s*z.X.c* (z.X.m-1)->(B b).length=128)(v:C<=900000)(t:A.kind=2):
  aq W Tryz.prog 10 [eE r,.agg A.cells.toArray] (RgX r z D1 z.O (L++R)) (β:=Option Qp) (λy=>∃d,y=some d/\(d.e=0\/d.e=50)/\U7 z n B l D1 (wrD D1 y)) (λy=>.agg (cn (AwE (z.t.on D1) l y:Nat) dh (eU D1 (wrD D1 y))).toArray) (λy=>RgX r z (wrD D1 y) (z.wrT y) (L++R)):=by
 have s:iP W 58 [.pointer (kW z).a,.slice A.po A.pl A.pc] (kW z).b D1 (Sl.star (z.O::L)) (β:=Option Qp) (λy=>∃d,y=some d/\(d.e=0\/d.e=50)/\U7 z n B l D1 (wrD D1 y)) (λy=>i6 (AwE (z.t.on D1) l y)) (wrD D1) (λy=>Sl.star (z.wrT y::L)):=λR=>by
  have g:=ars_wrx (W:=W) (R:=L++R) (cap:=A.pc) h K F J j i H (I R) G u v;rw[<-m]at g;exact fX (λw c=>((c.swap.join).perm (xb (l₁:=z.O::L)))) (aq.mono g (λy=>y) (λ_ h=>h) (λ_ _=>rfl) (λy _ w c=>((c.perm (xb (l₁:=z.wrT y::L)).symm).nest (L:=z.wrT y::L)).swap))
 have g:∀(S X Y:ab),(X::Y::S::(L++R)).Perm ((S::L)++(X::Y::R)):=λS X Y=>((xb (l₁:=S::L) (a:=X) (l₂:=Y::R)).trans (List.Perm.cons X (xb (l₁:=S::L) (a:=Y) (l₂:=R)))).symm;have o:∀(P X Y:ab),(P::X::Y::R).Perm (X::Y::P::R):=λP X Y=>(List.Perm.swap X P _).trans (List.Perm.cons X (List.Perm.swap Y P _));exact fX (λw c=>(((c.perm (g z.O _ _)).nest).perm (o _ _ _))) (aq.mono (uq (f:=28) (ar:=true) (X:=kW z) (D:=D1) (S:=Sl.star (z.O::L)) (by rw[t];rfl) (λ_=>rfl) (λ_ _=>by simp) (λ_=>rfl) (Gu (e:=λy=>AwE (z.t.on D1) l y) s)) (λy=>y) (λ_ h=>h) (λ_ _=>rfl) (λy _ w c=>((c.perm (o _ _ _).symm).join).perm (g (z.wrT y) _ _).symm))
theorem rgtrip_ok{X:qJ}{D:aw}{S:ab}(b:D.rQ=false)(c:0<=A.n):oD W 33 r X A D S (β:=Unit) (λ_=>True) (λ_=>0) (λ_=>dh) (λ_=>X.a) (λ_=>{D with c8:=A.n}) (λ_=>S):=by
 intro R;have a:=λR=>baytrip_ok (W:=W) (R:=R) X.b D A.n;rw[show D.trips A.n=(0,{D with c8:=A.n})by unfold aw.trips;rw[aE (by omega),aE (by rw[b];simp)]]at a;refine ze Tryz.func33 Tryz.ntmps33 ?_;repeat (refine zj λ_=>?_;refine w ?_)
 rename_i e;refine zq ?_;refine ay.aB xZ rfl ?_;intro d;refine w ?_;repeat (refine zj λ_=>?_;refine w ?_)
 refine zx [] 6 [0,1,2,3,4,5,6,7,8] _ ?_;refine w ?_;repeat (refine zj λ_=>?_;refine w ?_)
 refine zr (s:=a _) (h:=?_);intro _ _;refine w ?_;repeat (refine zj λ_=>?_;refine w ?_)
 refine zr (s:=pR 0) (h:=?_);intro _ _;refine w ?_;repeat (refine zj λ_=>?_;refine w ?_)
 refine zl (cn (0:Nat) dh 0) (cL rfl) ?_;repeat (refine zj λ_=>?_;refine w ?_)
 exact VE.results1 (.inl rfl) () rfl (aL.agg (vs:=cn (0:Nat) dh 0) ah rfl rfl zm rfl rfl) trivial rfl ae.re
theorem Bq.trips{D:aw}{K:Kd}{c:Nat}(h:Bq D n K c){m:Int}(b:0<=m)(a:m<=9223372036854775807):Bq2 {D with c8:=m} n K c:=⟨⟨h.len,h.is,h.cap,h.out⟩,h.lit,by show-1<=m;omega,a⟩
theorem do_trip(h:Rest z n V k x q E C)(a:A.kind=7)(b:0<=A.n):aq W Tryz.prog 10 [eE r,.agg A.cells.toArray] (kH r z R) (β:=Unit) (λ_=>True) (λ_=>.agg (cn 0 dh (eU z.t.D {z.t.D with c8:=A.n})).toArray) (λ_=>RgX r z {z.t.D with c8:=A.n} z.O R):=
 aq.mono (uq (f:=33) (ar:=false) (X:=kW z) (D:=z.t.D) (S:=z.O) (by rw[a];rfl) (λe=>by cases e) (λ_ _=>by simp) (λ_=>rfl) (rgtrip_ok (X:=kW z) (S:=z.O) h.ok.t.q.lit b)) (λy=>y) (λ_ h=>h) (λ_ _=>rfl) (λ_ _=>ae.refl)
theorem do_cutx{kl:List fI}{D':aw}{S:ab}{P:(Nat->Nat->List UInt8)->Prop}{c':Nat}(h:Rest z n V k 1 0 E C)(w:Wreck z.t n z.w (bU z.X) P c' D')(B:E<4611686018427387904)(v:c'<=900000)(u:A.kind=9)(D:∀R,oy W R A.ko kl)(i:kl.length=A.kl)(F:A.n<=0):aq W Tryz.prog 10 [eE r,.agg A.cells.toArray] (RgX r z D' S R) (β:=(Nat->Nat->List UInt8)×dN) (λy=>(P y.1/\Rest y.2 n y.1 k 1 0 (E+1) (c'+3000))/\z.mH y.2) (λy=>.agg (cn 0 dh (eU D' y.2.t.D)).toArray) (λy=>kH r y.2 R):=by
 obtain⟨U,z1,G,s,j,o,H,g⟩:=h.wreck w (kl.map fI.l);have l:=Oo (W:=W) s (by decide) H B v [];rw[g,o,j.b]at l
 have p:oD W 35 r (kW z) A D' S (β:=dN) (λc=>(Rest c n U k 1 0 (E+1) (c'+3000)/\z1.mH c)/\c.calm) (λ_=>0) (λ_=>dh) (λc=>ik c.a) (λc=>c.t.D) (λc=>c.O):=
  Nh (a:=λc:dN=>⟨c.a,0,none⟩) D i F l
 have t:=uq (R:=R) (f:=35) (ar:=false) (by rw[u];rfl) (λe=>by cases e) (λ_ _=>by simp) (λ_=>rfl) p;refine aq.mono t (λy=>(U,y)) (λy m=>⟨⟨G,m.1.1⟩,j.trans m.1.2⟩) (λ_ _=>rfl) (λc I=>?_);have d:=j.trans I.1.2;rw[HY d,show(kW z).b=c.t.Y.b from d.b.symm];exact ae.refl
end
end Go.Proofs.YtldolcbbmnmjoaaGreat
namespace Go.Proofs.YtldolcbbmnmjoaaGreat
open Go.RowKit Go.Sl
attribute [local irreducible] Sl.Own
theorem wrap_diff(a:Int){N:Nat}(h:N<4294967296):IntKind.i64.wrap (IntKind.i64.wrap (a+N)-a)=N:=by
 simp only[IntKind.wrap,IntKind.bits,IntKind.signed,Bool.true_and,decide_eq_true_eq];split<;>split<;>omega
theorem Did.ops{D D':aw}{N:Nat}(h:Did D D' N)(a:N<4294967296):eU D D'=N:=by
 unfold eU;rw[h.lO];exact wrap_diff _ a
abbrev sG.cellsX(X:sG)(u:Option Addr×Nat×Nat)(d:Bool):List Value:=[ii X.m,ii X.c,ii X.s,ii X.ring,.bool X.lazy,eE X.r,.slice X.w.1 X.wb.length X.w.2,.slice X.bf.1 X.bf.2.1 X.bf.2.2,.slice u.1 u.2.1 u.2.2,ii X.nb,ii (-1),.bool false,.bool X.there,i6 X.last,.bool d]
structure WrxY where
  X:sG
  u:Option Addr×Nat×Nat
  d:Bool
  l:List cQ
  D:aw
  S:ab
structure WrxOk(X:sG)(z:dN)(n:Nat)(B:Nat->List UInt8)(l:List sJ)(D1:aw)(y:WrxY):Prop where
  r:y.X.r=X.r
  nb:y.X.nb=X.nb
  bd:y.l.map cQ.bd=cnL X.nb l
  w:U7 z n B y.l D1 y.D
section
variable{W:World}{R:List ab}{X:sG}{z:dN}{B:Nat->List UInt8}{p n k q E C:Nat}
theorem twritex_ok{J:Option Addr}{bc:Nat}{l:List sJ}{D1:aw}(h:mf X z B n k 1 0 E C)(t:z.easy)(O:Bq2 D1 n z.t.K z.t.c)(Z:0<=D1.c8)(F:cnL X.nb l≠[])(j:2*nxM X l+1<=X.ring-z.t.v.used)(N:C<=900000)(S:A7 W J l):
  aq W Tryz.prog 7 [eE p,.slice J l.length bc] (kQ p X (RgX X.r z D1 z.O R)) (β:=WrxY) (WrxOk X z n B l D1) (λ_=>.bool true) (λy=>Row p 42 (y.X.cellsX y.u y.d)::b8 X.w X.wb::RgX X.r z y.D y.S R):=by
 have Y:=h.rest;have U:=h.ok.m;have m:X.lazy=false:=h.lazy.trans t.lz;refine aq.enter Tryz.func7 Tryz.ntmps7 rfl rfl ?_;refine zt (s:=NV (bc:=bc) h.ok h.sN h.wb S) (h:=?_);rintro⟨pl,f,ao⟩ ⟨c,a⟩;dsimp only at c a⊢;refine w ?_;refine VO.bH (p:=f.1=none->pl.length=0) (λw d=>d.bn (.head _)) ?_;intro H;refine VO.bH (p:=∀e∈pl.map cQ.d,e.ok) (λw d=>cP.bH d.tail) ?_;intro I;have G:=BJ U.1 h.ok.c.1 pl;have K:pl.length<=100:=c.len;have o:pl≠[]:=λe=>F ((bd_nil a).2 e);have b:=j;rw[<-bd_most a]at b;refine VO.re 27 (.slice f.1 pl.length f.2) rfl rfl ?_;obtain⟨A,v⟩:∃A:mz,A=⟨2,0,0,0,f.1,pl.length,f.2,none,0,0⟩:=⟨_,rfl⟩;refine VO.pure rfl rfl (af.build sb_58 rfl (show aC _ _ _=some A.cells by rw[v];simp[aC,bR,Value.cells])) rfl ?_;have D:=do_wrx (W:=W) (R:=b8 ao (fe (hU pl B) X.nb)::kQ p X R) (r:=X.r) (L:=[vT f pl,cP (pl.map cQ.d)]) (A:=A) (l:=pl) Y t O Z o (by rw[<-h.m,<-h.c,<-h.ring];exact b) (by omega) (λR=>by rw[v];exact iT.own H I c.n (.head _) (.tail _ (.head _))) (by rw[v]) (λq V=>by rw[<-h.nb];exact c.dV q V) (by rw[<-h.nb];exact h.sN) N (by rw[v]);refine zr (s:=D) (h:=?_);rintro y ⟨u,rfl,Q,d⟩;obtain⟨g,i⟩:∃g,wrD D1 (some u)=g:=⟨_,rfl⟩;obtain⟨T,P⟩:∃T,z.wrT (some u)=T:=⟨_,rfl⟩;have x:AwE (z.t.on D1) pl (some u)=u.e:=rfl;rw[i]at d;rw[i,P,x];refine zw ?_;refine ay.aB xZ rfl ?_;intro n9;refine zw ?_;refine ay.gL (vs:=cn (u.e:Nat) dh (eU D1 g)) ah rfl rfl rfl rfl (cL rfl) zh (by simp) ?_;have M:=CD.2 o;rcases Q with e|e
 ·
  rw[e];refine w ?_;refine VC.aK rfl rfl (by rw[ky (by omega)];rfl) ?_;refine w ?_;refine VC.cU rfl rfl (ky (by omega)) ?_;refine w ?_;refine VC.aK rfl rfl (m) ?_;refine w ?_;exact VE.done (⟨{X with last:=0,bf:=(none,0,0),w:=ao,wb:=fe (hU pl B) X.nb},(none,0,0),false,pl,g,T⟩:WrxY) rfl ⟨rfl,rfl,a,d⟩ rfl ae.re
 ·
  rw[e];refine w ?_;refine VO.aR (λw d=>d.aZ 38 1) ?_;(refine zq ?_;refine ay.bP yf rfl rfl (by first|(simp;done)|simp[Value.oneCell']) (by decide) rfl ?_;intro nb);(refine zq ?_;refine ay.cg yf rfl rfl zh zm rfl (by first|(simp;done)|simp[Value.oneCell']) ?_ ?_ rfl ?_)
  · decide
  · decide
  intro uo uc;refine w ?_;exact VE.done (⟨{X with last:=50},(uo,1,uc),true,pl,g,T⟩:WrxY) rfl ⟨rfl,rfl,a,d⟩ rfl ae.re
end
end Go.Proofs.YtldolcbbmnmjoaaGreat
namespace Go.Proofs.YtldolcbbmnmjoaaGreat
open Go.RowKit Go.Sl
attribute [local irreducible] Sl.Own
structure AtP(p:dy)(X:sG)(z:dN)(B:Nat->List UInt8)(C u:Nat):Prop where
  play:mf X z B (p.gm+1) 0 1 0 1 C
  easy:z.easy
  used:z.t.v.used=u
  m:X.m=p.gm
  c:X.c=p.gc
  s:X.s=p.gs
  ring:X.ring=p.gr
section
variable{W:World}{R:List ab}{p:dy}{X Y:sG}{z y z':dN}{B B':Nat->List UInt8}{C C' u u':Nat}
theorem AtP.next(h:AtP p X z B C u){a:sG}(g:mf a z' B' (p.gm+1) 0 1 0 1 C')(k:z.mH z')(e:z'.easy)(b:z'.t.v.used=u'):AtP p a z' B' C' u':=
 ⟨g,e,b,(g.m.trans (k.m.trans h.play.m.symm)).trans h.m,(g.c.trans (k.c.trans h.play.c.symm)).trans h.c,(g.s.trans (k.s.trans h.play.s.symm)).trans h.s,(g.ring.trans (k.ring.trans h.play.ring.symm)).trans h.ring⟩
theorem AtP.nb(h:AtP p X z B C u)(g:AtP p Y y B' C' u'):Y.nb=X.nb:=by unfold sG.nb;rw[h.m,h.c,h.s,g.m,g.c,g.s]
theorem AtP.nxM(h:AtP p X z B C u)(g:AtP p Y y B' C' u')(l:List sJ):nxM Y l=nxM X l:=by unfold Go.Proofs.YtldolcbbmnmjoaaGreat.nxM;rw[h.nb g,h.m,h.c,g.m,g.c]
theorem AtP.nxB(h:AtP p X z B C u)(g:AtP p Y y B' C' u')(l:List sJ):nxB Y l=nxB X l:=by unfold Go.Proofs.YtldolcbbmnmjoaaGreat.nxB;rw[h.nxM g,h.nb g,h.ring,g.ring]
theorem AtP.nxU(h:AtP p X z B C u)(g:AtP p Y y B' C' u')(l:List sJ):nxU Y l=nxU X l:=by unfold Go.Proofs.YtldolcbbmnmjoaaGreat.nxU;rw[h.nxM g,h.nb g,h.ring,g.ring]
structure VW where
  X:sG
  z:dN
  Y:sG
  y:dN
  B:Nat->List UInt8
  u:Nat
  i:Nat
abbrev VV(bq1:Nat)(Y:sG)(s:Nat)(y:dN)(a:Nat)(X:sG)(r:Nat)(z:dN)(R:List ab):List ab:=kQ bq1 Y (kH s y (kQ a X (kH r z R)))
theorem tseal_ok{nb:Nat}{lo ko:Option Addr}{lc kc:Nat}{l:List sJ}{kl:List fI}(h:p.wf W)(hl:A7 W lo l)(et:nb<256)(hk:∀R,oy W R ko kl)(fg:kl.length<=140737488351232):
    az W Tryz.prog 3 [.agg p.cells.toArray,.slice lo l.length lc,ib nb,.slice ko kl.length kc] R (.bool true) R:=by
  have fx:=hl.len;refine ze Tryz.func3 Tryz.ntmps3 ?_;repeat (refine zj λ_=>?_;refine w ?_)
  rename_i q;refine zt (s:=Rr h) (h:=?_);rintro b hb;cases b with
  |true=>
    refine w ?_;repeat (refine zj λ_=>?_;refine w ?_)
    exact VE.done () rfl trivial rfl (ae.drop ae.refl)
  |false=>
    have hn:=hb rfl;clear hb;refine w ?_;repeat (refine zj λ_=>?_;refine w ?_)
    refine zg ?_ ?_<;>intro hb
    · refine w ?_;repeat (refine zj λ_=>?_;refine w ?_)
      exact VE.done () rfl trivial rfl (ae.drop ae.refl)
    have dV:l.length<=1000:=by have:=dx hb;omega
    refine w ?_;repeat (refine zj λ_=>?_;refine w ?_)
    refine zg ?_ ?_<;>intro hb
    · refine w ?_;repeat (refine zj λ_=>?_;refine w ?_)
      exact VE.done () rfl trivial rfl (ae.drop ae.refl)
    refine w ?_;repeat (refine zj λ_=>?_;refine w ?_)
    cases cY:p.lazy with
    |true=>
      refine VC.cU rfl rfl (rfl) ?_;refine w ?_;repeat (refine zj λ_=>?_;refine w ?_)
      exact VE.done () rfl trivial rfl (ae.drop ae.refl)
    |false=>
    refine VC.aK rfl rfl (rfl) ?_;refine w ?_;repeat (refine zj λ_=>?_;refine w ?_)
    refine zt (s:=IJ h hn) (h:=?_);rintro⟨o,X0,z0⟩ ⟨h0,⟨m1,m2,m3,m4⟩,bt,T⟩;dsimp only at h0 m1 m2 m3 m4 bt T⊢;refine w ?_;repeat (refine zj λ_=>?_;refine w ?_)
    refine zt (s:=IJ h hn) (h:=?_);rintro⟨bq1,Y0,y0⟩ ⟨h1,⟨n1,n2,n3,n4⟩,bw,cb⟩;dsimp only at h1 n1 n2 n3 n4 bw cb⊢;have a0:AtP p X0 z0 (λ_=>dC) 70000 0:=⟨h0,bt cY,T,m1,m2,m3,m4⟩;have b0:AtP p Y0 y0 (λ_=>dC) 70000 0:=⟨h1,bw cY,cb,n1,n2,n3,n4⟩;clear h0 h1 bt bw T cb m1 m2 m3 m4 n1 n2 n3 n4;refine w ?_;repeat (refine zj λ_=>?_;refine w ?_)
    refine zt (s:=Ll) (h:=?_);intro _ _;refine w ?_;repeat (refine zj λ_=>?_;refine w ?_)
    have eW:=hn.len;obtain⟨r,da⟩:∃r,r=X0.r:=⟨_,rfl⟩;obtain⟨s,dc⟩:∃s,s=Y0.r:=⟨_,rfl⟩;rw[<-da,<-dc];refine VC.loop (α:=VW) (λv=>v.i<=p.l.length/\(AtP p v.X v.z v.B (70000+4000*v.i) v.u/\v.X.r=r)/\(AtP p v.Y v.y v.B (70000+4000*v.i) v.u/\v.Y.r=s)) (λv=>VV bq1 v.Y s v.y o v.X r v.z (Row q 25 p.cells::R)) (λv=>[(1,.slice lo l.length lc),(2,ib nb),(3,.slice ko kl.length kc),(4,ip q),(9,eE o),(10,eE bq1),(12,ii v.i)]) (λv=>p.l.length-v.i) rfl ⟨X0,z0,Y0,y0,λ_=>dC,0,0⟩ ⟨c7 _,⟨a0,da.symm⟩,⟨b0,dc.symm⟩⟩ ae.re ⟨rfl,rfl,rfl,rfl,rfl,rfl,rfl,trivial⟩ ?_;rintro⟨X,z,Y,y,B,u,i⟩ ⟨hi,⟨j,F⟩,f,J⟩;dsimp only at hi j F f J⊢;refine w ?_;repeat (refine zj λ_=>?_;refine w ?_)
    refine zk ?_ ?_<;>intro n
    · have au:i<p.l.length:=by have:=cI n;omega
      clear n
      have hr:=λH=>h.l.gz H
      obtain⟨xa,ch⟩:=iK (hr []).nil (by omega)
      rw[ch]at hr
      have t:=h.l.each _ (fF au)
      refine w ?_;repeat (refine zj λ_=>?_;refine w ?_)
      refine VO.re 69 (.slice (some xa) p.l.length p.x.2) rfl (by rw[ch]) ?_
      refine w ?_;repeat (refine zj λ_=>?_;refine w ?_)
      ((first|apply VO.pure rfl rfl|apply VQ.pure rfl rfl|apply VD.take rfl rfl rfl|(refine VD.end rfl rfl rfl ?_;apply ay.pure));exact af.fH ah rfl rfl (hr _) (mP p.l i 3 au (by decide));rfl)
      have spec:=Kx (W:=W) (R:=kQ bq1 Y (kH s y (Row q 25 p.cells::R))) (p:=o) (bc:=p.l[i].x.2) j.play j.easy (by omega) t.l
      rw[F]at spec
      refine zr (s:=spec) (h:=?_)
      rintro⟨X1,z1,B1⟩ ⟨⟨g1,g2⟩,g3,g4,g5,g6⟩
      dsimp only at g1 g2 g3 g4 g5 g6⊢
      have cr:=j.next g1 g2 g4 g6
      refine w ?_;repeat (refine zj λ_=>?_;refine w ?_)
      refine VO.re 77 (.slice (some xa) p.l.length p.x.2) rfl (by rw[ch]) ?_
      refine w ?_;repeat (refine zj λ_=>?_;refine w ?_)
      ((first|apply VO.pure rfl rfl|apply VQ.pure rfl rfl|apply VD.take rfl rfl rfl|(refine VD.end rfl rfl rfl ?_;apply ay.pure));exact af.fH ah rfl rfl (hr _) (mP p.l i 3 au (by decide));rfl)
      have spec:=Kx (W:=W) (R:=kQ o X1 (kH r z1 (Row q 25 p.cells::R))) (p:=bq1) (bc:=p.l[i].x.2) f.play f.easy (by omega) t.l
      rw[J]at spec
      refine zr (s:=spec) (h:=?_)
      rintro⟨Y1,y1,B2⟩ ⟨⟨k1,k2⟩,k3,k4,k5,k6⟩
      dsimp only at k1 k2 k3 k4 k5 k6⊢
      have br:=f.next k1 k2 k4 k6
      rw[k5,j.nxB f,<-g5]at br
      rw[f.used,j.nxU f]at br
      rw[j.used]at cr
      refine w ?_;repeat (refine zj λ_=>?_;refine w ?_)
      exact VE.round ⟨X1,z1,Y1,y1,B1,nxU X p.l[i].l u,i+1⟩ ⟨au,⟨by dsimp only;rw[Nat.mul_succ,<-ux];exact cr,g3⟩,by dsimp only;rw[Nat.mul_succ,<-ux];exact br,k3⟩ (by dsimp only;omega) ⟨rfl,rfl,rfl,rfl,rfl,rfl,b7 rfl (by congr 1),trivial⟩ ae.re
    have fb:i=p.l.length:=by have:=dx n;omega
    clear n;obtain⟨C,hC⟩:∃C,C=70000+4000*i:=⟨_,rfl⟩;have eY:C<=870000:=by omega
    rw[<-hC]at j f;clear hC;refine w ?_;repeat (refine zj λ_=>?_;refine w ?_)
    refine VO.re 105 (eE s) rfl (by rw[J]) ?_;refine zr (s:=Sd (r:=s) (R:=kQ bq1 Y (kQ o X (kH r z (Row q 25 p.cells::R)))) f.play.rest) (h:=?_);intro sy _;refine w ?_;repeat (refine zj λ_=>?_;refine w ?_)
    refine zq ?_;refine ay.aB mM rfl ?_;intro n15;refine w ?_;repeat (refine zj λ_=>?_;refine w ?_)
    refine zS (lP (vU.sup y.X sy) false y.t.Y.wl.length y.t.v.used) ?_;repeat (refine zj λ_=>?_;refine w ?_)
    refine zr (s:=NV (R:=Row n15 48 (lP (vU.sup y.X sy) false y.t.Y.wl.length y.t.v.used)::kH s y (kQ o X (kH r z (Row q 25 p.cells::R)))) (p:=bq1) (bc:=lc) f.play.ok f.play.sN f.play.wb hl) (h:=?_);rintro⟨pl,po,ao⟩ ⟨Q,an⟩;dsimp only at Q an⊢;refine w ?_;repeat (refine zj λ_=>?_;refine w ?_)
    obtain⟨M,hM⟩:∃M,M=nxM X l:=⟨_,rfl⟩;have bo:dF Y.m Y.c pl=M:=by rw[bd_most an,j.nxM f,hM]
    have ep:pl.length<=100:=Q.len;have bm:M<=200:=by have:=BJ f.play.ok.m.1 f.play.ok.c.1 pl;omega
    refine VO.bH (p:=po.1=none->pl.length=0) (λw t=>t.bn (.head _)) ?_;intro eu;refine VO.bH (p:=∀e∈pl.map cQ.d,e.ok) (λw t=>cP.bH t.tail) ?_;intro ev;refine VO.re 17 (.slice po.1 pl.length po.2) rfl rfl ?_;refine VO.re 18 (.slice ao.1 (fe (hU pl B) Y.nb).length ao.2) rfl rfl ?_;refine VO.re 19 (ii ((2*M+1:Nat):Int)) rfl (by rw[<-bo];rfl) ?_;refine VO.re 120 (.slice po.1 pl.length po.2) rfl rfl ?_;refine VO.re 119 (eE s) rfl (by rw[J]) ?_;obtain⟨A,hA⟩:∃A:mz,A=⟨2,0,0,0,po.1,pl.length,po.2,none,0,0⟩:=⟨_,rfl⟩;((first|apply VO.pure rfl rfl|apply VQ.pure rfl rfl|apply VD.take rfl rfl rfl|(refine VD.end rfl rfl rfl ?_;apply ay.pure));exact af.build sb_58 rfl (show aC _ _ _=some A.cells by rw[hA];simp[aC,bR,Value.cells]);rfl);obtain⟨S1,ct⟩:∃S1,S1=Row n15 48 (lP (vU.sup y.X sy) false y.t.Y.wl.length y.t.v.used):=⟨_,rfl⟩;have cy:=Qu (W:=W) (R:=b8 ao (fe (hU pl B) Y.nb)::kQ bq1 Y (S1::kQ o X (kH r z (Row q 25 p.cells::R)))) (r:=s) (L:=[vT po pl,cP (pl.map cQ.d)]) (A:=A) (l:=pl) f.play.rest f.easy (by omega) (λR=>by rw[hA];exact iT.own eu ev Q.n (.head _) (.tail _ (.head _))) (by rw[hA]) (λe he=>by rw[<-f.play.nb];exact Q.dV e he) (by rw[<-f.play.nb];exact f.play.sN) (by omega) (by rw[hA]);rw[<-f.play.m,<-f.play.c,<-f.play.ring,bo]at cy;rw[<-ct];refine zr (s:=cy) (h:=?_);rintro y1 ⟨⟨gy,gD⟩,gi,-,cc⟩;have ga:=f.ring;refine w ?_;repeat (refine zj λ_=>?_;refine w ?_)
    refine zq ?_;refine ay.aB xZ rfl ?_;intro n20;refine w ?_;repeat (refine zj λ_=>?_;refine w ?_)
    obtain⟨er,bx⟩:∃er:Nat,er=if Y.ring<2*M+1 then 122 else 0:=⟨_,rfl⟩;rw[<-bx];refine zl (cn (er:Int) dh (eU y.t.D y1.t.D)) (cL rfl) ?_;repeat (refine zj λ_=>?_;refine w ?_)
    refine VO.re 127 (eE s) rfl (by rw[J]) ?_;refine zr (s:=Sd (r:=s) (R:=Row n20 55 (cn (er:Int) dh (eU y.t.D y1.t.D))::b8 ao (fe (hU pl B) Y.nb)::S1::kQ bq1 Y (kQ o X (kH r z R))) gy) (h:=?_);intro dr _;refine w ?_;repeat (refine zj λ_=>?_;refine w ?_)
    refine zq ?_;refine ay.aB mM rfl ?_;intro n21;refine w ?_;repeat (refine zj λ_=>?_;refine w ?_)
    refine zS (lP (vU.sup y1.X dr) false y1.t.Y.wl.length y1.t.v.used) ?_;repeat (refine zj λ_=>?_;refine w ?_)
    refine VC.aR (H':=Row n21 48 (lP (vU.sup y1.X dr) false y1.t.Y.wl.length y1.t.v.used)::Row n20 55 (cn (er:Int) dh (eU y.t.D y1.t.D))::Row n15 48 (lP (vU.sup y.X sy) false y.t.Y.wl.length y.t.v.used)::Row bq1 42 Y.cells::b8 ao (fe (hU pl B) Y.nb)::kQ o X (kH r z R)) (by rw[ct];exact ae.re) ?_;refine VC.quiet rfl (by kernel_rfl) (by kernel_rfl) ?_;refine w ?_;repeat (refine zj λ_=>?_;refine w ?_)
    have bh:er=0\/er=122:=by rw[bx];split;exact .inr rfl;exact .inl rfl
    have gb:=f.used;by_cases av:pl=[]
    · refine VQ.gT rfl rfl rfl (by rw[av];rfl) ?_
      refine w ?_;repeat (refine zj λ_=>?_;refine w ?_)
      rcases bh with e|e
      · rw[e]
        refine w ?_;repeat (refine zj λ_=>?_;refine w ?_)
        exact VE.done () rfl trivial rfl ae.re
      · rw[e]
        refine w ?_;repeat (refine zj λ_=>?_;refine w ?_)
        exact VE.done () rfl trivial rfl ae.re
    have eX:=CD.2 av;refine VQ.gF rfl rfl rfl (by rw[beq_eq_false_iff_ne];omega) ?_;refine w ?_;repeat (refine zj λ_=>?_;refine w ?_)
    have eR:y.t.v.used<=Y.ring/\Y.ring<=2048:=by
      have a:=f.play.rest.ok.t.live.used;have b:=f.play.rest.ok.t.live.all.uZ.cost;have c:=f.play.rest.ok.ring;have d:=f.play.ring;have e:=f.play.ok.ring;omega
    have ba:IntKind.i64.wrap ((Y.ring:Int)-y.t.v.used)=(Y.ring:Int)-y.t.v.used:=IntWalk.i64_in _ ⟨by omega,by omega⟩;refine zk ?_ ?_<;>intro n
    · clear n
      refine w ?_;repeat (refine zj λ_=>?_;refine w ?_)
      rcases bh with e|e
      · rw[e]
        refine w ?_;repeat (refine zj λ_=>?_;refine w ?_)
        exact VE.done () rfl trivial rfl ae.re
      · rw[e]
        refine w ?_;repeat (refine zj λ_=>?_;refine w ?_)
        exact VE.done () rfl trivial rfl ae.re
    rw[ba]at n;have O:2*M+1<=Y.ring-y.t.v.used:=by have:=dx n;omega
    clear n ba;have cS:er=0:=by rw[bx,aE (by omega)]
    rw[cS];have eS:y1.t.v.used=y.t.v.used+(2*M+1)/\∃q,fJ y.X.m y.X.c pl q/\Did y.t.D y1.t.D (rdS y.X.m y.X.c q.out+3*M+3):=by
      unfold WrP at cc;rw[<-f.play.m,<-f.play.c,<-f.play.ring,bo]at cc;rcases cc with⟨g1|g1,-⟩|⟨-,-,g3,g4⟩
      · omega
      · exact lcs g1 av
      · rw[lam O]at g3
        obtain⟨q,a,b⟩:=g4 O
        rw[<-f.play.m,<-f.play.c]
        exact⟨g3,q,a,b⟩
    obtain⟨T,sq,ca,bf⟩:=eS;obtain⟨N,hN⟩:∃N,N=rdS y.X.m y.X.c sq.out:=⟨_,rfl⟩;have fa:N<=1600:=by
      have a:=rdS_le y.X.m y.X.c sq.out;have b:=ca.outs.1;have c:=f.play.rest.ok.X.m;have d:sq.out.length*y.X.m<=100*16:=RC (by omega) c.2;omega
    rw[<-hN]at bf;rw[bf.ops (by omega),T];obtain⟨U,eb⟩:∃U,U=y.t.v.used:=⟨_,rfl⟩;rw[<-eb]at eR O⊢;refine w ?_;repeat (refine zj λ_=>?_;refine w ?_)
    refine VO.re 158 (ii ((2*M:Nat):Int)) rfl (by congr 1;omega) ?_;((first|apply VO.pure rfl rfl|apply VQ.pure rfl rfl|apply VD.take rfl rfl rfl|(refine VD.end rfl rfl rfl ?_;apply ay.pure));exact af.quo (a:=2*M) (b:=2) rfl rfl (by decide) (IntWalk.i64_in _ ⟨by omega,by omega⟩);rfl);refine w ?_;repeat (refine zj λ_=>?_;refine w ?_)
    refine VC.aK rfl rfl (by rw[bne_eq_false_iff_eq];omega) ?_;refine w ?_;repeat (refine zj λ_=>?_;refine w ?_)
    refine VO.re 24 (ii ((N+2*M+1:Nat):Int)) rfl (by congr 1;omega) ?_;refine VO.re 178 (ii nb) rfl (by rw[IntWalk.i64_in _ ⟨by omega,by omega⟩]) ?_;refine VO.re 181 (ii ((N+3*M+4:Nat):Int)) rfl (by congr 1) ?_;((first|apply VO.pure rfl rfl|apply VQ.pure rfl rfl|apply VD.take rfl rfl rfl|(refine VD.end rfl rfl rfl ?_;apply ay.pure));exact af.rem (a:=nb) (b:=N+3*M+4) rfl rfl (by omega);rfl);obtain⟨k,bG⟩:∃k,k=nb% (N+3*M+4):=⟨_,rfl⟩;have ej:k<256:=by rw[bG];exact Nat.lt_of_le_of_lt (Nat.mod_le _ _) et
    rw[<-bG];clear bG;refine VO.aR (H':=b8 ao (fe (hU pl B) Y.nb)::kQ o X (kH r z R)) ae.re ?_;refine w ?_;repeat (refine zj λ_=>?_;refine w ?_)
    obtain⟨A7,E⟩:∃A:mz,A=⟨7,0,k,0,none,0,0,none,0,0⟩:=⟨_,rfl⟩;refine VO.re 190 (eE r) rfl (by rw[F]) ?_;((first|apply VO.pure rfl rfl|apply VQ.pure rfl rfl|apply VD.take rfl rfl rfl|(refine VD.end rfl rfl rfl ?_;apply ay.pure));exact af.build sb_58 rfl (show aC _ _ _=some A7.cells by rw[E];simp[aC,bR,Value.cells]);rfl);refine zr (s:=do_trip (r:=r) (A:=A7) (R:=b8 ao (fe (hU pl B) Y.nb)::kQ o X R) j.play.rest (by rw[E]) (by rw[E];exact Int.natCast_nonneg _)) (h:=?_);intro _ _;obtain⟨D1,aa⟩:∃D1,D1={z.t.D with c8:=A7.n}:=⟨_,rfl⟩;have ea:Bq2 D1 (p.gm+1) z.t.K z.t.c:=by
      rw[aa,E];exact j.play.rest.ok.t.q.trips (Int.natCast_nonneg _) (show(k:Int)<=_ by omega)
    have ht:D1.c8=k:=by rw[aa,E]
    rw[<-aa];clear aa E;have m:=j.nb f;have ek:cnL X.nb l≠[]:=λe=>av ((bd_nil an).1 (by rw[m];exact e));have bE:2*nxM X l+1<=X.ring-z.t.v.used:=by
      have a:=j.ring;have b:=f.ring;have c:=j.used;rw[<-hM];omega
    have spec:=twritex_ok (W:=W) (R:=b8 ao (fe (hU pl B) Y.nb)::R) (p:=o) (bc:=lc) j.play j.easy ea (by rw[ht];exact Int.natCast_nonneg _) ek bE (by omega) hl;rw[F]at spec;refine w ?_;repeat (refine zj λ_=>?_;refine w ?_)
    refine zr (s:=spec) (h:=?_);intro wy G;refine w ?_;repeat (refine zj λ_=>?_;refine w ?_)
    refine VO.re 200 (eE r) rfl (by rw[G.r,F]) ?_;obtain⟨A9,I⟩:∃A:mz,A=⟨9,0,0,0,none,0,0,ko,kl.length,kc⟩:=⟨_,rfl⟩;((first|apply VO.pure rfl rfl|apply VQ.pure rfl rfl|apply VD.take rfl rfl rfl|(refine VD.end rfl rfl rfl ?_;apply ay.pure));exact af.build sb_58 rfl (show aC _ _ _=some A9.cells by rw[I];simp[aC,bR,Value.cells]);rfl);obtain⟨q2,eC,P,ba,f1,f2,f3⟩:=G.w;refine zr (s:=do_cutx (r:=r) (A:=A9) (kl:=kl) (S:=wy.S) (R:=Row o 42 (wy.X.cellsX wy.u wy.d)::b8 X.w X.wb::b8 ao (fe (hU pl B) Y.nb)::R) j.play.rest ba (by decide) (by have:=j.play.rest.c;omega) (by rw[I]) (λR=>by rw[I];exact hk R) (by rw[I]) (by rw[I];exact Int.le_refl 0)) (h:=?_);rintro⟨V2,z2⟩ ⟨⟨ag,g2⟩,k2⟩;dsimp only at ag g2 k2⊢;refine w ?_;repeat (refine zj λ_=>?_;refine w ?_)
    refine zq ?_;refine ay.aB xZ rfl ?_;intro n27;refine w ?_;repeat (refine zj λ_=>?_;refine w ?_)
    refine zl (cn 0 dh (eU wy.D z2.t.D)) (cL rfl) ?_;repeat (refine zj λ_=>?_;refine w ?_)
    obtain⟨D,hD⟩:∃D,D=kI z2.X.m z2.X.c V2 0 X.nb:=⟨_,rfl⟩;have ad:∀B',V2=fy z.X.m z.X.c B'->D=fe B' X.nb:=λB' e=>by
      rw[hD,k2.m,k2.c,e,C5 j.play.rest.ok.X.m.1 j.play.rest.ok.X.c.1]
    obtain⟨A1,V⟩:∃A:mz,A=⟨1,0,X.nb,0,none,0,0,none,0,0⟩:=⟨_,rfl⟩;have eG:∀R,aq W Tryz.prog 10 [eE r,.agg A1.cells.toArray] (kH r z2 R) (β:=dN×Option Addr×Nat) (λ_=>True) (λv=>.agg (cn 0 (sliceB v.2 D) (eU z2.t.D v.1.t.D)).toArray) (λv=>[b8 v.2 D]++kH r v.1 R):=λR=>by
      have:=LY (W:=W) (R:=R) (r:=r) (A:=A1) g2 0 X.nb (by rw[j.play.nb,k2.m,k2.c,k2.s];omega) (by rw[V]) (by rw[V];rfl) (by rw[V]);rw[<-hD]at this;exact aq.mono this (λv=>v) (λ_ _=>trivial) (λ_ _=>rfl) (λ_ _=>ae.refl)
    obtain⟨M2,bm⟩:∃M2,M2=Row n27 55 (cn 0 dh (eU wy.D z2.t.D))::Row o 42 (wy.X.cellsX wy.u wy.d)::b8 X.w X.wb::b8 ao (fe (hU pl B) Y.nb)::R:=⟨_,rfl⟩;refine VC.aR (H':=Cz r z2::M2) (λw t=>(by rw[bm];exact ae.re:ae W _ ([Row r 72 (kW z2).cells,al z2.t.Y.b z2.t.D,z2.O]++M2)) w t |>.nest) ?_;rw[bm];refine VC.qO [9,10] 11 10 [0,1,2,3,4,5,6,7,8,9,10,11] _ 28 (λb=>Row b 55 (cn 0 dh 0)) (λb=>eE b) rfl (by kernel_rfl) (by kernel_rfl) (ae.drop ae.refl) ?_;(repeat (apply VX.take rfl rfl rfl rfl;exact zp;rfl;rfl;rfl));rw[G.nb,G.r,F];apply VX.take rfl rfl rfl rfl
    · exact af.build sb_58 rfl (show aC _ _ _=some A1.cells by rw[V];simp[aC,bR,Value.cells])
    · rfl
    · rfl
    · rfl
    refine VX.uk (K:=Cz r z2) (S:=λv:dN×Option Addr×Nat=>[b8 v.2 D]++[Cz r v.1]) rfl rfl rfl rfl rfl rfl (λ_ _=>by simp) (Rg eG) (by(repeat first|exact .refl|(apply aP.cons;focus repeat first|exact .head|apply nW.tail)|exact .nil|apply aP.drop)) rfl (dG.alloc xZ rfl) ae.re (λ_ _=>ae.re) rfl rfl rfl ?_;rintro⟨z3,wd⟩-;dsimp only;refine VX.float rfl rfl (dG.alloc xZ rfl) ae.re ?_;intro n28;refine w ?_;repeat (refine zj λ_=>?_;refine w ?_)
    refine zl (cn 0 (sliceB wd D) (eU z2.t.D z3.t.D)) (cL rfl) ?_;repeat (refine zj λ_=>?_;refine w ?_)
    have bb:wy.l.map cQ.bd=pl.map cQ.bd:=by rw[G.bd,an,m]
    have em:y.X.m=z.X.m:=by rw[<-f.play.m,<-j.play.m,j.m,f.m]
    have ec:y.X.c=z.X.c:=by rw[<-f.play.c,<-j.play.c,j.c,f.c]
    have eM:dF z.X.m z.X.c wy.l=M:=by rw[<-j.play.m,<-j.play.c,bd_most G.bd,hM]
    rw[em,ec]at ca hN;have eN:rdS z.X.m z.X.c q2.out=N:=by rw[eC.US ca bb,hN]
    rw[eM,eN,ht]at f2 f3;rw[putB_bd bb]at f1 f3;have ef:k<=N+2*M+1->D=X.wb:=λg=>by rw[j.play.wb];exact ad _ (f2 (by omega) V2 ag)
    have cw:N+2*M+3<=k->D=fe (hU pl B) Y.nb:=λg=>by rw[m];exact ad _ (f3 (by omega) V2 ag)
    have bs:D=X.wb\/D=fe (hU pl B) Y.nb:=by
      rw[j.play.wb,m];exact(f1 V2 ag).imp (ad _) (ad _)
    have ck:D.length<=maxLen:=by
      have fs:D.length=X.nb*128:=by
        rcases bs with e|e
        · rw[e,j.play.wb,lk j.play.sN]
        · rw[e,m,lk (o5 Q.n j.play.sN)]
      have:=j.play.ok.nb;simp only[maxLen];omega
    obtain⟨A2,Z⟩:∃A2,A2=fe (hU pl B) Y.nb:=⟨_,rfl⟩;refine VC.aR (H':=Row n28 55 (cn 0 (sliceB wd D) (eU z2.t.D z3.t.D))::b8 wd D::b8 X.w X.wb::b8 ao A2::R) (by rw[Z];exact ae.re) ?_;refine VC.bH (p:=wd.1=none->D.length=0) (λw t=>t.bn (.tail _ (.head _))) ?_;intro k1;refine VC.bH (p:=X.w.1=none->X.wb.length=0) (λw t=>t.bn (.tail _ (.tail _ (.head _)))) ?_;intro k3;refine VC.bH (p:=ao.1=none->A2.length=0) (λw t=>t.bn (.tail _ (.tail _ (.tail _ (.head _))))) ?_;intro k4;rw[<-Z]at cw bs;have s1:=xV (W:=W) (R:=Row n28 55 (cn 0 (sliceB wd D) (eU z2.t.D z3.t.D))::b8 wd D::b8 X.w X.wb::b8 ao A2::R) (cap:=wd.2) (cap':=X.w.2) (a:=D) (b:=X.wb) (aV.own (aQ _) (.tail _ (.head _)) (by simp) k1) (aV.own (aQ _) (.tail _ (.tail _ (.head _))) (by simp) k3) ck;have s2:=xV (W:=W) (R:=Row n28 55 (cn 0 (sliceB wd D) (eU z2.t.D z3.t.D))::b8 wd D::b8 X.w X.wb::b8 ao A2::R) (cap:=wd.2) (cap':=ao.2) (a:=D) (b:=A2) (aV.own (aQ _) (.tail _ (.head _)) (by simp) k1) (aV.own (aQ _) (.tail _ (.tail _ (.tail _ (.head _)))) (by simp) k4) ck;refine zk ?_ ?_<;>intro n
    · have ed:=ef (by have:=cI n;omega)
      refine w ?_;repeat (refine zj λ_=>?_;refine w ?_)
      refine zt (s:=s1) (h:=?_)
      intro _ _
      rw[ky ed]
      refine w ?_;repeat (refine zj λ_=>?_;refine w ?_)
      exact VE.done () rfl trivial rfl ae.re
    clear n;refine w ?_;repeat (refine zj λ_=>?_;refine w ?_)
    refine zk ?_ ?_<;>intro n
    · have ee:=cw (by have:=cI n;omega)
      refine w ?_;repeat (refine zj λ_=>?_;refine w ?_)
      refine VO.re 239 (.slice ao.1 A2.length ao.2) rfl (by rw[Z]) ?_
      refine zt (s:=s2) (h:=?_)
      intro _ _
      rw[ky ee]
      refine w ?_;repeat (refine zj λ_=>?_;refine w ?_)
      exact VE.done () rfl trivial rfl ae.re
    clear n;refine w ?_;repeat (refine zj λ_=>?_;refine w ?_)
    refine zt (s:=s1) (h:=?_);intro _ _;by_cases bk:D=X.wb
    · rw[ky bk]
      refine w ?_;repeat (refine zj λ_=>?_;refine w ?_)
      exact VE.done () rfl trivial rfl ae.re
    · rw[gx bk]
      refine w ?_;repeat (refine zj λ_=>?_;refine w ?_)
      refine VO.re 248 (.slice ao.1 A2.length ao.2) rfl (by rw[Z]) ?_
      refine zt (s:=s2) (h:=?_)
      intro _ _
      rw[ky (bs.resolve_left bk)]
      refine w ?_;repeat (refine zj λ_=>?_;refine w ?_)
      exact VE.done () rfl trivial rfl ae.re
end
end Go.Proofs.YtldolcbbmnmjoaaGreat
