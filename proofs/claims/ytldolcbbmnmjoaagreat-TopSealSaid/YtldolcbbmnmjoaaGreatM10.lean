import Derived.Test.YtldolcbbmnmjoaaGreatM9
import Derived.Laws.Cover3
set_option maxRecDepth 8000
set_option maxHeartbeats 16000000
set_option linter.unusedVariables false
set_option linter.unusedSimpArgs false
set_option linter.unusedSectionVars false
set_option linter.defProp false
namespace Go.Sl
open Go Go.RowKit Go.MapKept
section
variable{W:World}{P:Program}{n:Nat}{H:List ab}{f:Fr}{dst:Option Tmp}{ty_:TypeId}{pos:String}{after:Array Edge}{guard:Option (Nat×Bool)}
theorem af.RJ{t kt a u:TypeId}{x:Operand}{o:Option Nat}(c:P.underlying t=some (.map kt a))(d:aD f x=some (.map o)):
  af W P n H f {dst,op:= .binOp .eql t x (.const (.map none)) u,type:=ty_,pos,after,guard} (.bool o.isNone):=by
 unfold af;intro e w b _;exact oM b d rfl rfl (by rintro o (rfl|rfl)<;>cases x<;>rfl) rfl rfl (run_equal_map_nil w t kt a o c)
end
end Go.Sl
namespace Go.Proofs.YtldolcbbmnmjoaaGreat
open Go.RowKit Go.Sl
attribute [local irreducible] Sl.Own
abbrev rY:Tryz.prog.underlying 336=some (.map 3 337):=by kernel_rfl
abbrev BT:Tryz.prog.underlying 337=some (.map 3 207):=by kernel_rfl
abbrev wV:jB Tryz.prog 3 Int cz eK:=jB.i64 (by kernel_rfl)
theorem rX{k:Nat}(h:k<=1000000):eK (k:Int):=by unfold eK;simp[Lit.wf,IntKind.min,IntKind.max,IntKind.signed,IntKind.bits];omega
abbrev oB(b:Nat)(S:List dP)(G:List aU)(R:List ab):List ab:=db cz eK b (S.map dP.top)::cG dP.res S::cP G::R
def kD(m c:Nat)(l:List cQ):List (Int×List (Int×List UInt8)):=l.foldl (λP p=>sy P (cJ m c p.dV).row (cJ m c p.dV).av p.d.data) []
theorem jN(m c:Nat)(l:List cQ)(p:cQ):kD m c (l++[p])=sy (kD m c l) (cJ m c p.dV).row (cJ m c p.dV).av p.d.data:=by
 unfold kD;rw[List.foldl_append];rfl
theorem Al{W w:World}{H:List ab}{b:Nat}{D:List (Int×Value)}(a:Sl.Holds W H w)(m:db cz eK b D∈H):∀x∈D,eK x.1:=by
 obtain⟨es,cl,h,_⟩:=a.RI m;exact h.aX
abbrev cu.own(q:cu):ab:=bL (q.ao,q.cap) q.aA
abbrev Ff(h:Nat)(S:List dP)(b:Nat)(kv:List (Int×Value))(d:List dP)(G:List aU)(out:List cu)(c:Option Addr×Nat)(e:Addr)(g:Nat)(a:List Int)(R:List ab):List ab:=db cz eK b kv::cG dP.res d::Sl.Own 126 1 (.slice c.1 out.length c.2) out.length (out.map cu.ei)::cG cu.own out::Sl.Own 3 1 (.slice (some e) a.length g) a.length (a.map cz)::db cz eK h (S.map dP.top)::cP G::R
def kh(S:List dP)(r:Int):List (Int×aj):=(fj (S.map λs=>(s.row,s.es)) r).getD []
abbrev TX:aj:=⟨0,0,⟨none,0,[]⟩⟩
def gH(S:List dP)(r:Int):List aj:=(ey ((kh S r).map (·.1))).map λk=>(fj (kh S r) k).getD TX
structure CJ where
  x:Option Addr×Nat
  out:List cu
  S:List dP
  G:List aU
structure fJ(m c:Nat)(l:List cQ)(y:CJ):Prop where
  ok:ni y.S y.G (kD m c l)
  mx:y.S.length<=l.length
  each:∀s∈y.S,s.es.length<=l.length
  out:y.out.map (·.aA)=(ey (y.S.map (·.row))).map (gH y.S)
theorem EI{W:World}{R:List ab}{m c s:Nat}(hm:3<=m/\m<=16)(I:1<=c/\c<=16)(U:1<=s/\s<=256){ao:Option Addr}{cap:Nat}{l:List cQ}(hl:l.length<=256)(hp:iT W R ao l)(hb:∀p∈l,p.dV<s*c* (m-1)):
  aq W Tryz.prog 162 [.agg (cv m c s).toArray,.slice ao l.length cap] R (β:=CJ) (fJ m c l) (λy=>.tuple #[.slice y.x.1 y.out.length y.x.2,i6 0]) (λy=>Sl.Own 126 1 (.slice y.x.1 y.out.length y.x.2) y.out.length (y.out.map cu.ei)::cG cu.own y.out::cP y.G::R):=by
 have h4:s*c<=256*16:=RC U.2 I.2;refine ze Tryz.func162 Tryz.ntmps162 ?_;refine zj λ_=>?_;refine w ?_;rename_i N;refine zt (s:=jH ⟨m,c,s⟩) (h:=?_);intro _ _;rw[lam ⟨⟨by dsimp only;omega,by dsimp only;omega⟩,⟨by dsimp only;omega,by dsimp only;omega⟩,by dsimp only;omega,by dsimp only;omega⟩];refine w ?_;refine VC.aK rfl rfl (gx zO) ?_;refine zw ?_;refine ay.lA cz eK rfl ?_;intro r;refine w ?_;refine VC.aR (H':=oB r [] [] (Row N 36 (cv m c s)::R)) (ae.trans (λw C=>di (res:=dP.res) (di (res:=aU.res) C)) ae.re) ?_
 refine VC.loop (α:=Nat×List dP×List aU) (λy=>y.1<=l.length/\ni y.2.1 y.2.2 (kD m c (l.take y.1))/\y.2.1.length<=y.1/\∀s∈y.2.1,s.es.length<=y.1) (λy=>oB r y.2.1 y.2.2 (Row N 36 (cv m c s)::R))
  (λy=>[(1,.slice ao l.length cap),(2,ip N),(7,.map (some r)),(8,.bool true),(28,.slice ao l.length cap),(29,ii l.length),(30,ii y.1)]) (λy=>l.length-y.1) rfl (0,[],[]) ⟨c7 _,⟨λs h=>(by cases h),List.nodup_nil,rfl⟩,eI _,λs h=>(by cases h)⟩ ae.refl ⟨rfl,rfl,rfl,rfl,rfl,rfl,rfl,trivial⟩ ?_
 ·
  rintro⟨i,S,G⟩ ⟨hi,V,bG,au⟩;dsimp only at hi V bG au⊢;refine w ?_;refine zk ?_ ?_<;>intro I
  ·
   have A:i<l.length:=by have:=cI I;omega
   clear I;obtain⟨la,rfl⟩:∃x,ao=some x:=by cases ao with|none=>have:=hp.gz.nil rfl;omega|some x=>exact⟨x,rfl⟩
   have ch:=hb _ (fF A);have bp:=hp.n128 _ (fF A);have eR:ae W (oB r S G (Row N 36 (cv m c s)::R)) R:=ae.drop (ae.drop (ae.drop (ae.drop ae.refl)));refine w ?_;refine VO.pure rfl rfl (.gY ah rfl rfl (hp.gz.aR eR) (R6 l i A) rfl) rfl ?_;refine zw ?_;refine ay.aB Nr rfl ?_;intro n10;refine zS (l[i].cells) ?_;refine VO.re 35 (.agg (cv m c s).toArray) rfl rfl ?_;refine zt (s:=zX hm I U ch) (h:=?_);rintro⟨st,row,v,pa⟩ ⟨⟨g1,g2⟩,g0⟩;dsimp only at g1 g2⊢;refine zw ?_;refine ay.aB sb_246 rfl ?_;intro n11;refine zS ([ii st,ii row,ii v,ii pa]) ?_;refine VO.re 8 (.bool true) rfl (by rw[bp];rfl) ?_;obtain⟨o,ho,bb⟩:∃o:Option Nat,(getD (S.map dP.top) (row:Int)).getD (.map none)= .map o/\((o=none/\∀s∈S,s.row≠(row:Int))\/∃i0,∃h:i0<S.length,S[i0].row=(row:Int)/\o=some S[i0].dV):=by
    by_cases bs:∃i0,∃h:i0<S.length,S[i0].row=(row:Int)
    ·
     obtain⟨i0,D,t⟩:=bs;exact⟨_,by rw[top_get V D t];rfl,.inr ⟨i0,D,t,rfl⟩⟩
    ·
     have Y:∀s∈S,s.row≠(row:Int):=λs U e=>by
      obtain⟨j,hj,rfl⟩:=List.mem_iff_getElem.1 U;exact bs ⟨j,hj,e⟩
     exact⟨none,by rw[top_none Y];rfl,.inl ⟨rfl,Y⟩⟩
   refine VO.pure rfl rfl (af.jT (k:=(row:Int)) rY wV (rX zO) (λw=>by simp;rfl) rfl rfl zm) rfl ?_;rw[ho];refine w ?_;refine VO.pure rfl rfl (af.RJ BT rfl) rfl ?_;refine w ?_;refine VC.join (α:=List dP×Nat) (λy=>ni y.1 G (gK (kD m c (l.take i)) row)/\y.1.length<=i+1/\(∀s∈y.1,s.es.length<=i)/\∃h:y.2<y.1.length,y.1[y.2].row=(row:Int)) (λy=>Row n11 246 [ii st,ii row,ii v,ii pa]::Row n10 68 l[i].cells::oB r y.1 G (Row N 36 (cv m c s)::R)) (λ_=>[(1,.slice (some la) l.length cap),(2,ip N),(7,.map (some r)),(8,.bool true),(10,ip n10),(11,ip n11),(28,.slice (some la) l.length cap),(29,ii l.length),(30,ii i)]) ?_ ?_
   ·
    intro Q2 jn;rcases bb with⟨rfl,Y⟩|⟨i0,D,t,rfl⟩
    ·
     refine zw ?_;refine ay.lA cz eK rfl ?_;intro nb;refine zw ?_;refine ay.qZ (k:=(row:Int)) rY wV (rX zO) rfl rfl rfl zh ?_;refine w ?_;refine jn.to (S++[dP.mk row nb []],S.length) ⟨V.MQ Y nb,by rw[c9,ie];omega,λs U=>?_,by rw[c9,ie];omega,by simp⟩ ⟨rfl,rfl,rfl,rfl,rfl,rfl,rfl,rfl,rfl,trivial⟩ ?_
     ·
      rcases l0.1 U with q|q
      · exact au s q
      · rw[ju.1 q];exact c7 _
     ·
      dsimp only;rw[show iw (S.map dP.top) (row:Int) (Value.map (some nb))=(S++[dP.mk row nb []]).map dP.top by
       rw[jv];unfold iw;rw[List.filter_eq_self.2 λx hx=>by obtain⟨s,U,rfl⟩:=fG.1 hx;simpa using Y s U];rfl]
      exact λw C=>(ae.re:ae W (cG dP.res (S++[dP.mk row nb []])::_) _) w (du (res:=dP.res) (a:=dP.mk row nb []) ((ae.re:ae W _ (dP.res (dP.mk row nb [])::cG dP.res S::Row n11 246 [ii st,ii row,ii v,ii pa]::Row n10 68 l[i].cells::db cz eK r ((S++[dP.mk row nb []]).map dP.top)::cP G::Row N 36 (cv m c s)::R)) w C))
    ·
     refine w ?_;exact jn.to (S,i0) ⟨V.MR D t,by dsimp only;omega,au,D,t⟩ ⟨rfl,rfl,rfl,rfl,rfl,rfl,rfl,rfl,rfl,trivial⟩ ae.re
   rintro⟨F,i0⟩ ⟨ad,bE,bm,D,t⟩;dsimp only at ad bE bm D t⊢;refine VC.aR (H':=db cz eK F[i0].dV F[i0].kv::cG dP.res (F.eraseIdx i0)::Row n11 246 [ii st,ii row,ii v,ii pa]::Row n10 68 l[i].cells::db cz eK r (F.map dP.top)::cP G::Row N 36 (cv m c s)::R) (λw C=>j4 D ((ae.re:ae W _ (cG dP.res F::Row n11 246 [ii st,ii row,ii v,ii pa]::Row n10 68 l[i].cells::db cz eK r (F.map dP.top)::cP G::Row N 36 (cv m c s)::R)) w C)) ?_;refine zx [12] 14 [0,1,2,3,4,5,6,7,8,9,10,11,12,13,14] _ ?_;refine w ?_;refine VD.take rfl rfl rfl (af.jT (k:=(row:Int)) rY wV (rX zO) (λw=>by simp;rfl) rfl rfl zm) rfl ?_;rw[top_get ad D t];refine zt (s:=gg ((hp.each _ (fF A)).aR (ae.drop (ae.drop (ae.drop (ae.drop (ae.drop (ae.drop (ae.drop ae.refl)))))))) zO) (h:=?_);intro x _;refine w ?_;refine VD.take rfl rfl rfl (af.build sb_207 rfl (show aC _ _ _=some (aj.mk v row (aU.mk x.1 x.2 l[i].d.data)).cells by simp[aC,bR,Value.cells])) rfl ?_;refine zw ?_;refine ay.qZ (k:=(v:Int)) BT wV (rX zO) rfl rfl rfl zh ?_;refine w ?_;have eb:kD m c (l.take (i+1))=tV (gK (kD m c (l.take i)) row) row v l[i].d.data:=by
    rw[nZ A,jN,<-g0];rfl
   have cY:iw F[i0].kv (v:Int) (PQ (aj.mk v row (aU.mk x.1 x.2 l[i].d.data)))=(dP.put row v (aj.mk v row (aU.mk x.1 x.2 l[i].d.data)) F[i0]).kv:=by
    unfold dP.put;rw[lam t];exact(Ei PQ F[i0].es v (aj.mk v row (aU.mk x.1 x.2 l[i].d.data))).symm
   refine VE.round (i+1,F.map (dP.put row v (aj.mk v row (aU.mk x.1 x.2 l[i].d.data))),G++[aU.mk x.1 x.2 l[i].d.data]) ⟨A,?_,?_,?_⟩ (by dsimp only;omega) ⟨rfl,rfl,rfl,rfl,rfl,rfl,b7 rfl (by congr 1),trivial⟩ ?_
   ·
    dsimp only;rw[eb];exact ad.put (aj.mk v row (aU.mk x.1 x.2 l[i].d.data)) rfl rfl λs U=>by have:=bm s U;omega
   · dsimp only;rw[ew];exact bE
   ·
    dsimp only;intro s U;obtain⟨s,cc,rfl⟩:=fG.1 U;have:=bm s cc;unfold dP.put;split
    ·
     show(List.filter _ _++[_]).length<=i+1;rw[c9];have:=uy (λx:Int×aj=>decide (x.1≠(v:Int))) s.es;simp only[ie];omega
    · omega
   ·
    dsimp only;unfold oB;rw[cY,ni.top_put,show db cz eK F[i0].dV (dP.put row v (aj.mk v row (aU.mk x.1 x.2 l[i].d.data)) F[i0]).kv=dP.res (dP.put row v (aj.mk v row (aU.mk x.1 x.2 l[i].d.data)) F[i0])by unfold dP.res;rw[(BZ _ _ _ _).2]];have bo:=ad.rest (k:=(v:Int)) D t (aj.mk v row (aU.mk x.1 x.2 l[i].d.data));generalize F.map (dP.put row v (aj.mk v row (aU.mk x.1 x.2 l[i].d.data)))=S2 at*;generalize dP.put row v (aj.mk v row (aU.mk x.1 x.2 l[i].d.data)) F[i0]=s2 at*;exact λw C=>(ae.re:ae W (cP (G++[aU.mk x.1 x.2 l[i].d.data])::cG dP.res S2::db cz eK r (F.map dP.top)::Row N 36 (cv m c s)::R) _) w (du (res:=aU.res) (a:=aU.mk x.1 x.2 l[i].d.data) ((ae.re:ae W (cG dP.res S2::aU.res (aU.mk x.1 x.2 l[i].d.data)::cP G::db cz eK r (F.map dP.top)::Row N 36 (cv m c s)::R) _) w (p9 (res:=dP.res) bo (pZ (res:=dP.res) ((ae.re:ae W _ (s2.res::cG dP.res (F.eraseIdx i0)::aU.res (aU.mk x.1 x.2 l[i].d.data)::cP G::db cz eK r (F.map dP.top)::Row N 36 (cv m c s)::R)) w C)))))
  have cw:i=l.length:=by have:=dx I;omega
  clear I;subst cw;rw[SP]at V;refine w ?_;have bk:(S.map dP.top).length<=1000000:=by rw[ew];omega
  refine zr (s:=Py (H:=oB r S G (Row N 36 (cv m c s)::R)) (some r)) (h:=?_);intro ck _;refine zr (s:=Km (H:=Row ck 336 [.map (some r)]::oB r S G (Row N 36 (cv m c s)::R)) zm (.head _) bk) (h:=?_);rintro⟨E,K⟩ _;refine w ?_;obtain⟨b,aa⟩:∃b,ey (S.map (·.row))=b:=⟨_,rfl⟩;have br:b.length=S.length:=by rw[<-aa,ey,List.length_mergeSort,ew]
  rw[show(S.map dP.top).map (·.1)=S.map (·.row)by rw[FZ];rfl,aa,ew,<-br];refine VC.aR (H':=Sl.Own 126 1 (.slice none 0 0) 0 []::cG cu.own []::Sl.Own 3 1 (.slice E b.length K) b.length (b.map cz)::oB r S G R) (ae.trans (ae.re (L:=Sl.Own 3 1 (.slice E b.length K) b.length (b.map cz)::oB r S G R)) (λw C=>(di (res:=cu.own) C).aZ 126 1)) ?_
  refine VC.loop (α:=Nat×List cu×(Option Addr×Nat)) (λy=>y.1<=b.length/\y.2.1.map (·.aA)=(b.take y.1).map (gH S)) (λy=>Sl.Own 126 1 (.slice y.2.2.1 y.2.1.length y.2.2.2) y.2.1.length (y.2.1.map cu.ei)::cG cu.own y.2.1::Sl.Own 3 1 (.slice E b.length K) b.length (b.map cz)::oB r S G R)
   (λy=>[(7,.map (some r)),(13,.slice y.2.2.1 y.2.1.length y.2.2.2),(79,.slice E b.length K),(80,ii b.length),(81,ii y.1)]) (λy=>b.length-y.1) rfl (0,[],(none,0)) ⟨c7 _,rfl⟩ ae.refl ⟨rfl,rfl,rfl,rfl,rfl,trivial⟩ ?_
  rintro⟨j,out,O⟩ ⟨hj,J⟩;dsimp only at hj J⊢;have bh:∀u∈b.map cz,u.oneCell'=true:=λu hu=>by obtain⟨z,_,rfl⟩:=fG.1 hu;rfl
  refine w ?_;refine zk ?_ ?_<;>intro I
  ·
   have A:j<b.length:=by have:=cI I;omega
   clear I;refine VC.bH (λw C=>C.bn (.tail _ (.tail _ (.head _)))) ?_;intro bx;have hr1:aV W (Sl.Own 126 1 (.slice O.1 out.length O.2) out.length (out.map cu.ei)::cG cu.own out::Sl.Own 3 1 (.slice E b.length K) b.length (b.map cz)::oB r S G R) 1 E b.length (b.map cz):=aV.own bh zm (by simp) bx;obtain⟨E,rfl⟩:∃x,E=some x:=by cases E with|none=>have:=bx rfl;omega|some x=>exact⟨x,rfl⟩
   obtain⟨i0,D,t⟩:∃i0,∃h:i0<S.length,S[i0].row=b[j]:=by
    have X:b[j]∈S.map (·.row):=(List.mergeSort_perm (S.map (·.row)) _).mem_iff.1 (by rw[<-ey,aa];exact fF A);obtain⟨s0,ea,e⟩:=fG.1 X;obtain⟨i0,D,rfl⟩:=List.mem_iff_getElem.1 ea;exact⟨i0,D,e⟩
   refine VC.bH (λw C=>Al C (.tail _ (.tail _ (.tail _ (.head _))))) ?_;intro bf;have bw:eK b[j]:=by rw[<-t];exact bf _ (fG.2 ⟨S[i0],fF D,rfl⟩)
   refine w ?_;refine VO.pure rfl rfl (af.fH ah rfl rfl hr1 (show(b.map cz)[j]?=some (cz b[j])by rw[law,fL A];rfl)) rfl ?_;refine w ?_;refine VO.pure rfl rfl (af.jT (k:=b[j]) rY wV bw (λw=>by simp;rfl) rfl rfl zm) rfl ?_;rw[top_get V D t];refine w ?_;refine VO.re 87 (.map (some S[i0].dV)) rfl rfl ?_;refine VO.aR (H':=Ff r S S[i0].dV S[i0].kv (S.eraseIdx i0) G out O E K b R) (λw C=>j4 (res:=dP.res) D ((ae.re:ae W _ (cG dP.res S::Sl.Own 126 1 (.slice O.1 out.length O.2) out.length (out.map cu.ei)::cG cu.own out::Sl.Own 3 1 (.slice (some E) b.length K) b.length (b.map cz)::db cz eK r (S.map dP.top)::cP G::R)) w C)) ?_;have bt:S[i0].kv.length<=1000000:=by rw[ew];have:=(V.each _ (fF D)).mx;omega
   refine zr (s:=Px (H:=Ff r S S[i0].dV S[i0].kv (S.eraseIdx i0) G out O E K b R) (some S[i0].dV)) (h:=?_);intro cr _;refine zr (s:=Kl (H:=Row cr 337 [.map (some S[i0].dV)]::Ff r S S[i0].dV S[i0].kv (S.eraseIdx i0) G out O E K b R) (.tail _ (.head _)) (.head _) bt) (h:=?_);rintro⟨qa,qc⟩ _;refine w ?_;obtain⟨g,Z⟩:∃g,ey (S[i0].kv.map (·.1))=g:=⟨_,rfl⟩;have av:g.length=S[i0].kv.length:=by rw[<-Z,ey,List.length_mergeSort,ew]
   have ct:g.length<=256:=by rw[av,ew];exact(V.each _ (fF D)).mx
   rw[Z,<-av];refine VC.aR (H':=bL (none,0) []::Sl.Own 3 1 (.slice qa g.length qc) g.length (g.map cz)::Ff r S S[i0].dV S[i0].kv (S.eraseIdx i0) G out O E K b R) (ae.trans (ae.re (L:=Sl.Own 3 1 (.slice qa g.length qc) g.length (g.map cz)::Ff r S S[i0].dV S[i0].kv (S.eraseIdx i0) G out O E K b R)) (λw C=>C.aZ 207 3)) ?_
   refine VC.loop (α:=Nat×List aj×(Option Addr×Nat)) (λy=>y.1<=g.length/\y.2.1=(g.take y.1).map λk=>(fj S[i0].es k).getD TX) (λy=>bL y.2.2 y.2.1::Sl.Own 3 1 (.slice qa g.length qc) g.length (g.map cz)::Ff r S S[i0].dV S[i0].kv (S.eraseIdx i0) G out O E K b R)
    (λy=>[(7,.map (some r)),(13,.slice O.1 out.length O.2),(15,ii b[j]),(16,.slice y.2.2.1 y.2.1.length y.2.2.2),(79,.slice (some E) b.length K),(80,ii b.length),(81,ii j),(89,.slice qa g.length qc),(90,ii g.length),(91,ii y.1)]) (λy=>g.length-y.1) rfl (0,[],(none,0)) ⟨c7 _,rfl⟩ ae.refl ⟨rfl,rfl,rfl,rfl,rfl,rfl,rfl,rfl,rfl,rfl,trivial⟩ ?_
   ·
    rintro⟨q,aA,xp⟩ ⟨hq,B⟩;dsimp only at hq B⊢;have ed:aA.length=q:=by rw[B,ew,j1];omega
    have an:∀u∈g.map cz,u.oneCell'=true:=λu hu=>by obtain⟨z,_,rfl⟩:=fG.1 hu;rfl
    refine w ?_;refine zk ?_ ?_<;>intro I
    ·
     have M:q<g.length:=by have:=cI I;omega
     clear I;refine VC.bH (λw C=>C.bn (.tail _ (.head _))) ?_;intro ba;have hr2:aV W (bL xp aA::Sl.Own 3 1 (.slice qa g.length qc) g.length (g.map cz)::Ff r S S[i0].dV S[i0].kv (S.eraseIdx i0) G out O E K b R) 1 qa g.length (g.map cz):=aV.own an zm (by simp) ba;obtain⟨qa,rfl⟩:∃x,qa=some x:=by cases qa with|none=>have:=ba rfl;omega|some x=>exact⟨x,rfl⟩
     refine VC.bH (λw C=>Al C (.tail _ (.tail _ (.head _)))) ?_;intro ag;have cy:eK g[q]:=by
      have X:g[q]∈S[i0].kv.map (·.1):=(List.mergeSort_perm (S[i0].kv.map (·.1)) _).mem_iff.1 (by rw[<-ey,Z];exact fF M);obtain⟨z,hz,e⟩:=fG.1 X;rw[<-e];exact ag z hz
     refine w ?_;refine VO.pure rfl rfl (af.fH ah rfl rfl hr2 (show(g.map cz)[q]?=some (cz g[q])by rw[law,fL M];rfl)) rfl ?_;refine w ?_;refine VO.pure rfl rfl (af.jT (k:=b[j]) rY wV bw (λw=>by simp;rfl) rfl rfl zm) rfl ?_;rw[top_get V D t];refine w ?_;refine VO.re 98 (.map (some S[i0].dV)) rfl rfl ?_;refine w ?_;refine VO.pure rfl rfl (af.jT (k:=g[q]) BT wV cy (λw=>by simp;rfl) rfl rfl zm) rfl ?_;obtain⟨p,ca⟩:∃p,(fj S[i0].es g[q]).getD TX=p:=⟨_,rfl⟩;rw[show(getD S[i0].kv g[q]).getD (.agg #[ii 0,ii 0,.slice none 0 0])= .agg p.cells.toArray by
      rw[<-ca,show getD S[i0].kv g[q]=fj S[i0].kv g[q]from rfl,Dt PQ];cases fj S[i0].es g[q]<;>rfl]
     refine zq ?_;refine ay.buildSlice (cs:=p.cells) st_126 rfl rfl (by simp[Value.cells]) (by simp[Value.cells]) (by decide) rfl ?_;intro nb;refine zq ?_;refine ay.cg st_126 rfl rfl zh zm rfl (dI p) (by simp only[maxLen];omega) zO rfl ?_;intro T Q;refine w ?_;refine VE.round (q+1,aA++[p],(T,Q)) ⟨M,by dsimp only;rw[nZ M,jv,B,<-ca];rfl⟩ (by dsimp only;omega) ⟨rfl,rfl,rfl,b7 rfl (by dsimp only;rw[c9,ie]),rfl,rfl,rfl,rfl,rfl,b7 rfl (by congr 1),trivial⟩ ?_;dsimp only;unfold bL;rw[im,c9,ie];exact ae.re
    have dr:q=g.length:=by have:=dx I;omega
    clear I;subst dr;rw[SP]at B;have cb:kh S b[j]=S[i0].es:=by
     unfold kh;rw[kS (l:=S.map λs=>(s.row,s.es)) (by rw[FZ];exact V.one) (fG.2 ⟨S[i0],fF D,by rw[t]⟩)];rfl
    have dc:aA=gH S b[j]:=by
     unfold gH;rw[cb,B,<-Z,show S[i0].kv.map (·.1)=S[i0].es.map (·.1)by rw[FZ];rfl]
    have ec:out.length=j:=by have:=JB List.length J;rw[ew,ew,j1]at this;omega
    refine zw ?_;refine ay.buildSlice (cs:=[cu.ei ⟨xp.1,xp.2,aA⟩]) st_251 rfl rfl (by simp[Value.cells]) (by simp[Value.cells]) (by decide) rfl ?_;intro nb;refine zq ?_;refine ay.cg st_251 rfl rfl zh zm rfl (λu hu=>by rw[ju.1 hu];rfl) (by simp only[maxLen];omega) zO rfl ?_;intro T Q;refine w ?_;refine VE.round (j+1,out++[cu.mk xp.1 xp.2 aA],(T,Q)) ⟨A,by dsimp only;rw[nZ A,jv,jv,J,dc];rfl⟩ (by dsimp only;omega) ⟨rfl,b7 rfl (by dsimp only;rw[c9,ie]),rfl,rfl,b7 rfl (by congr 1),trivial⟩ ?_;dsimp only;rw[show(out++[cu.mk xp.1 xp.2 aA]).map cu.ei=out.map cu.ei++[cu.ei (cu.mk xp.1 xp.2 aA)]from jv,c9,ie];have da:List.Perm (S[i0]::S.eraseIdx i0) S:=(nI (fL D)).symm;generalize cc:S[i0]=s2 at*;generalize S.eraseIdx i0=S1 at*;exact λw C=>(ae.re:ae W (cG cu.own (out++[cu.mk xp.1 xp.2 aA])::cG dP.res S::Sl.Own 126 1 (.slice T (out.length+1) Q) (out.length+1) (out.map cu.ei++[cu.ei (cu.mk xp.1 xp.2 aA)])::Sl.Own 3 1 (.slice (some E) b.length K) b.length (b.map cz)::db cz eK r (S.map dP.top)::cP G::R) _) w (du (res:=cu.own) (a:=cu.mk xp.1 xp.2 aA) ((ae.re:ae W (cG dP.res S::cu.own (cu.mk xp.1 xp.2 aA)::cG cu.own out::Sl.Own 126 1 (.slice T (out.length+1) Q) (out.length+1) (out.map cu.ei++[cu.ei (cu.mk xp.1 xp.2 aA)])::Sl.Own 3 1 (.slice (some E) b.length K) b.length (b.map cz)::db cz eK r (S.map dP.top)::cP G::R) _) w (p9 (res:=dP.res) da (pZ (res:=dP.res) ((ae.re:ae W _ (s2.res::cG dP.res S1::cu.own (cu.mk xp.1 xp.2 aA)::cG cu.own out::Sl.Own 126 1 (.slice T (out.length+1) Q) (out.length+1) (out.map cu.ei++[cu.ei (cu.mk xp.1 xp.2 aA)])::Sl.Own 3 1 (.slice (some E) b.length K) b.length (b.map cz)::db cz eK r (S.map dP.top)::cP G::R)) w C)))))
  have cS:j=b.length:=by have:=dx I;omega
  clear I;subst cS;rw[SP]at J;refine w ?_;exact VE.done (CJ.mk O out S G) rfl ⟨V,bG,au,by rw[J,aa]⟩ rfl ae.re
end Go.Proofs.YtldolcbbmnmjoaaGreat
namespace Go.Proofs.YtldolcbbmnmjoaaGreat
open Go.RowKit Go.Sl
attribute [local irreducible] Sl.Own
def Ed(out:List cu):Nat:=(out.map λq=>q.aA.length).sum
def kz(out:List cu):Nat:=out.length+Ed out
theorem fJ.outs{m c:Nat}{l:List cQ}{y:CJ}(h:fJ m c l y):y.out.length<=l.length/\∀q∈y.out,q.aA.length<=l.length:=by
  have e:=JB List.length h.out;rw[ew,ew,ey,List.length_mergeSort,ew]at e;refine⟨by rw[e];exact h.mx,λq d=>?_⟩;have b:q.aA∈(ey (y.S.map (·.row))).map (gH y.S):=by rw[<-h.out];exact List.mem_map_of_mem d
  obtain⟨r,_,f⟩:=fG.1 b;rw[<-f];unfold gH;rw[ew,ey,List.length_mergeSort,ew];unfold kh;cases a:fj (y.S.map λs=>(s.row,s.es)) r with
  |none=>exact c7 _
  |some es=>
    unfold fj at a;obtain⟨z,i,rfl⟩:=Option.map_eq_some_iff.1 a;obtain⟨s,g,rfl⟩:=fG.1 (List.mem_of_find?_eq_some i);exact h.each s g
theorem BU{n:Nat}:∀(out:List cu),(∀q∈out,q.aA.length<=n)->Ed out<=out.length*n
  |[],_=>c7 _
  |q::r,h=>by
    have:=BU r λx a=>h x (.tail _ a);have:=h q (.head _);show q.aA.length+Ed r<=(r.length+1)*n;rw[Tk];omega
theorem HO{W:World}{R:List ab}{m c s:Nat}(B:3<=m/\m<=16)(b:1<=c/\c<=16)(E:1<=s/\s<=256){ao:Option Addr}{cap:Nat}{l:List cQ}(t:l.length<=256)(C:iT W R ao l)(A:∀p∈l,p.dV<s*c* (m-1)):
  aq W Tryz.prog 101 [.agg (cv m c s).toArray,.slice ao l.length cap] R (β:=CJ) (fJ m c l) (λy=>.tuple #[ii (kz y.out),i6 0]) (λy=>R):=by
 refine ze Tryz.func101 Tryz.ntmps101 ?_;refine zj λ_=>?_;refine w ?_;rename_i o;refine zr (s:=EI (R:=Row o 36 (cv m c s)::R) B b E t (C.aR (ae.drop ae.refl)) A) (h:=?_);rintro y v;obtain⟨H,r⟩:=v.outs;have f:∀u∈y.out.map cu.ei,u.oneCell'=true:=λu F=>by obtain⟨z,_,rfl⟩:=fG.1 F;rfl
 refine w ?_;refine VC.bH (λw G=>G.bn (.head _)) ?_;intro d;have hr1:aV W (Sl.Own 126 1 (.slice y.x.1 y.out.length y.x.2) y.out.length (y.out.map cu.ei)::cG cu.own y.out::cP y.G::Row o 36 (cv m c s)::R) 1 y.x.1 y.out.length (y.out.map cu.ei):=aV.own f (.head _) (by simp) d
 refine VC.loop (α:=Nat) (λj=>j<=y.out.length) (λ_=>Sl.Own 126 1 (.slice y.x.1 y.out.length y.x.2) y.out.length (y.out.map cu.ei)::cG cu.own y.out::cP y.G::Row o 36 (cv m c s)::R)
  (λj=>[(7,i6 0),(8,ii ((y.out.length+Ed (y.out.take j):Nat):Int)),(19,.slice y.x.1 y.out.length y.x.2),(20,ii y.out.length),(21,ii j)]) (λj=>y.out.length-j) rfl 0 (c7 _) ae.refl ⟨rfl,rfl,rfl,rfl,rfl,trivial⟩ ?_
 intro j J;have k:=BU (n:=256) (y.out.take j) λq D=>RB (r q (Tl D)) t;rw[j1]at k;refine w ?_;refine zk ?_ ?_<;>intro b
 ·
  have a:j<y.out.length:=by have:=cI b;omega
  clear b;obtain⟨K,i⟩:∃x,y.x.1=some x:=by cases e:y.x.1 with|none=>have:=d e;omega|some x=>exact⟨x,rfl⟩
  rw[i]at hr1⊢;refine w ?_;refine VO.pure rfl rfl (af.fH ah rfl rfl hr1 (show(y.out.map cu.ei)[j]?=some (cu.ei y.out[j])by rw[law,fL a];rfl)) rfl ?_;have I:=r _ (fF a);refine w ?_;exact VE.round (j+1) a zO ⟨rfl,b7 rfl (by rw[nZ a];unfold Ed;rw[jv,lcm];simp;omega),rfl,rfl,b7 rfl (by congr 1),trivial⟩ ae.refl
 have g:j=y.out.length:=by have:=dx b;omega
 clear b;subst g;rw[SP];refine w ?_;exact VE.done y rfl v rfl ae.re
theorem Pd{W:World}{R:List ab}{m c s:Nat}(g:3<=m/\m<=16)(e:1<=c/\c<=16)(f:1<=s/\s<=256)(r:Nat)(k:r<s*c):
  aq W Tryz.prog 348 [.agg (cv m c s).toArray,ii r] R (β:=Nat) (λz=>z=eD m (r/c)) (λz=>.tuple #[ii z,i6 0]) (λ_=>R):=by
 have h:s*c<=256*16:=RC f.2 e.2;have j:r/c<=r:=Nat.div_le_self r c;obtain⟨st,d⟩:∃q,r/c=q:=⟨_,rfl⟩;refine ze Tryz.func348 Tryz.ntmps348 ?_;refine zj λ_=>?_;refine zt (s:=vC g e f) (h:=?_);intro _ _;refine zw ?_;refine ay.aB Nn rfl ?_;intro l;refine zS (yX m c s) ?_;refine zt (s:=pP m c s e f) (h:=?_);intro _ _;refine w ?_;refine VC.aK rfl rfl (gx zO) ?_;refine w ?_;refine zx [] 6 [0,1,2,3,4,5,6,7,8] _ ?_;refine w ?_;refine VD.take rfl rfl rfl (af.quo (a:=r) (b:=c) rfl rfl zO (by rw[d];exact IntWalk.i64_in _ ⟨by omega,by omega⟩)) rfl ?_;rw[d];refine zt (s:=qT m c s g st zO) (h:=?_);intro z i;refine w ?_;exact VE.done z rfl i rfl (ae.drop (ae.drop ae.refl))
end Go.Proofs.YtldolcbbmnmjoaaGreat
namespace Go.Sl
open Go Go.RowKit
section
variable{W:World}{P:Program}{n:Nat}{m:Md}{c:Code}{Q:Exit->Act->World->Prop}{H H' L R G G':List ab}{f F:Fr}{N:List ab->Fr->Prop}
variable{dst:Option Tmp}{d:Nat}{ty_:TypeId}{pos:String}{after:Array Edge}{guard:Option (Nat×Bool)}
theorem VO.Re{k:Nat}{x:Operand}{xs:Array Operand}{ats:Array TypeId}{fn:Fn}{cap:Array Value}{vs:List Value}(j:(aG c)[k]?=some {dst:=none,op:= .defer {callee:= .value x,args:=xs,argTypes:=ats},type:=ty_,pos,after,guard:=none})(i:(aG c)[k+1]?=none)
  (o:aD f x=some (.func fn #[] cap))(g:jo f xs.toList=some vs)(h:VF W n ⟨none,[{target:= .fn fn cap,args:=vs.toArray}]⟩ Q .normal H f):VO W P n c k (EE [] Q) H f:=by
 unfold VF at h;unfold VO;intro t w b l;have a:xs.map (Act.eval ⟨t,[]⟩)=vs.toArray:=by
  have:=b.args g;apply Array.ext';simpa using this
 rw[lX j,SQ (by simpa using i)];unfold wpList;rw[lam (by unfold Region.wanted;rfl)];left;unfold Oper.wp execOp;simp only[resolve,b.eval o,a,Deferred.ofValue,Sem.run_bind,Sem.run_pure,Result.andThen_ok,Oper.upon,wpList,Act.put,Array.empty_append];unfold EE;intro e;exact h e t w b l
theorem uz{fn:Func}{g:FuncId}{cap:Array Value}{vs:List Value}{t:Array Value}{u k:FrameMode}{j h:ResultVar}{v v2:Value}{β:Type}{A:β->Prop}{r:β->Value}{G:β->List ab}{w:World}(C:u≠.run)(B:settle k= .returning)
  (s:∀a w,(callFunc g a).run P w= .ok (.enter g a) w)(spec:jm W P g (vs++cap.toList) H u k G')(x:β)(z:fn.results=#[j,h])(l:aL W P G' f j v)(o:aL W P G' f h v2)(p:A x)(D:.tuple #[v,v2]=r x)(q:ae W G' (G x))
  (y:bS n f t)(E:Holds W H w):Leaves P fn t (lh W A r G) [{target:= .fn (.func g) cap,args:=vs.toArray}] u w:=by
 refine leaves_cons (f:=g) (args:=vs.toArray++cap) C (by simp[Go.invoke,s]) ?_;unfold jm at spec;have b:=spec w E;rw[show(vs++cap.toList).toArray=vs.toArray++cap by apply Array.ext';simp]at b;refine CallsD.mono b ?_;rintro e I J ⟨rfl,⟨v0,rfl⟩,i⟩;simp only;rw[B];exact⟨_,Ca z l o y i,x,p,by rw[D],q _ i⟩
theorem VF.tg{fn:Func}{g:FuncId}{cap:Array Value}{vs:List Value}{h b:ResultVar}{v v2:Value}{e:Exit}{β:Type}{A:β->Prop}{r:β->Value}{G:β->List ab}(p:e= .ret\/e= .normal)
  (o:∀a w,(callFunc g a).run P w= .ok (.enter g a) w)(spec:jm W P g (vs++cap.toList) H .returning .returning G')(x:β)(s:fn.results=#[h,b])(i:aL W P G' f h v)(j:aL W P G' f b v2)(k:A x)(u:.tuple #[v,v2]=r x)(l:ae W G' (G x)):
  VF W n ⟨none,[{target:= .fn (.func g) cap,args:=vs.toArray}]⟩ (bodyPostD P fn (lh W A r G)) e H f:=by
 unfold VF;intro _ t w q y;rcases p with rfl|rfl<;>exact uz (by simp) rfl o spec x s i j k u l q y
theorem VF.JC{fn:Func}{g g2:FuncId}{cap cap2:Array Value}{vs vs2:List Value}{G2:List ab}{k i:ResultVar}{v v2:Value}{e:Exit}{β:Type}{A:β->Prop}{r:β->Value}{G:β->List ab}(y:e= .ret\/e= .normal)
  (u:∀a w,(callFunc g a).run P w= .ok (.enter g a) w)(j:∀a w,(callFunc g2 a).run P w= .ok (.enter g2 a) w)(spec:jm W P g (vs++cap.toList) H .returning .returning G2)(b:jm W P g2 (vs2++cap2.toList) G2 .returning .returning G')(x:β)(B:fn.results=#[k,i])(l:aL W P G' f k v)(o:aL W P G' f i v2)(p:A x)(C:.tuple #[v,v2]=r x)(s:ae W G' (G x)):
  VF W n ⟨none,[{target:= .fn (.func g) cap,args:=vs.toArray},{target:= .fn (.func g2) cap2,args:=vs2.toArray}]⟩ (bodyPostD P fn (lh W A r G)) e H f:=by
 unfold VF;intro _ t w z D;have key:Leaves P fn t (lh W A r G) [{target:= .fn (.func g) cap,args:=vs.toArray},{target:= .fn (.func g2) cap2,args:=vs2.toArray}] .returning w:=by
  refine leaves_cons (f:=g) (args:=vs.toArray++cap) (by simp) (by simp[Go.invoke,u]) ?_;unfold jm at spec;have h:=spec w D;rw[show(vs++cap.toList).toArray=vs.toArray++cap by apply Array.ext';simp]at h;refine CallsD.mono h ?_;rintro e E I ⟨rfl,⟨v0,rfl⟩,q⟩;exact uz (by simp[settle]) rfl j b x B l o p C s z q
 rcases y with rfl|rfl<;>exact key
theorem VR.iF{df:List Deferred}{x:Operand}{xs:Array Operand}{ats:Array TypeId}{fn:Fn}{cap:Array Value}{vs:List Value}(k:dg c=some false)(l:aG c=[{dst:=none,op:= .defer {callee:= .value x,args:=xs,argTypes:=ats},type:=ty_,pos,after,guard:=none}])
  (q:aD f x=some (.func fn #[] cap))(o:jo f xs.toList=some vs)(h:VF W n ⟨none,{target:= .fn fn cap,args:=vs.toArray}::df⟩ Q .normal H f):VR W P n ⟨none,df⟩ c Q H f:=by
 unfold VF at h;unfold VR;cases c<;>simp[dg]at k;subst k;intro i t w e p;have j:(Act.mk t df).eval=(Act.mk t []).eval:=xI ⟨t,[]⟩ df;have a:xs.map (Act.eval ⟨t,df⟩)=vs.toArray:=by
  rw[j];have:=e.args o;apply Array.ext';simpa using this
 have b:Act.eval ⟨t,df⟩ x= .func fn #[] cap:=by rw[j];exact e.eval q
 simp only[aG]at l;refine wpIn_region_list ?_;rw[l];unfold wpListIn;rw[lam (by unfold Region.wanted;rfl)];unfold Oper.wpIn;refine⟨λg _=>wE _ g,?_⟩;rw[show(Oper.semAt (CB (Md.mk none df).r).round (Act.eval ⟨t,(Md.mk none df).df⟩) {dst:=none,op:= .defer {callee:= .value x,args:=xs,argTypes:=ats},type:=ty_,pos,after,guard:=none}).run P w= .ok (.defer {target:= .fn fn cap,args:=vs.toArray}) w by
  simp only[I8];unfold Oper.semAt execOp;simp only[resolve,b,a,Deferred.ofValue,Sem.run_bind,Sem.run_pure,Result.andThen_ok,Array.empty_append]]
 rw[Oper.uponIn_defer];unfold wpListIn;exact h i t w e p
theorem jm.Rl{g:FuncId}{fn:Func}{args:List Value}{u:FrameMode}(z:P.funcs[g]?=some fn)(C:fn.ntmps=n)(y:fn.body.isSome=true)(B:Nat.ble args.length n=true)
    (h:VC W P n (gq fn) (bodyPost P fn (λe t=>(∃v,e= .returned v)/\Holds W G t)) H (vZ 0 args)):jm W P g args H u u G:=by
  unfold VC at h;unfold jm;intro w D;obtain⟨c,s⟩:=Option.isSome_iff_exists.1 y;refine callsD_of_wpS z s λj cs I=>?_;have k:gq fn=c:=by rw[gq,s];rfl
  rw[k]at h;have A:=bS.start args n (Nat.le_of_ble_eq_true B);rw[C]at*;have b:j::cs={j with mode:=u}::cs:=by cases j;simp_all
  have x:=h _ w A D;refine wpS_of_wp (Code.wp_mono ?_ x);intro e a t q;cases e with
  |normal=>
    obtain⟨o,v,p,r⟩:=q;exact⟨o,u,b,v,p,rfl,⟨v,rfl⟩,r.2⟩
  |ret=>
    obtain⟨o,v,p,r⟩:=q;exact⟨o,u,b,v,p,rfl,⟨v,rfl⟩,r.2⟩
  |panic E=>obtain⟨_,⟨v,e⟩,_⟩:=q;cases e
  |outgrown=>obtain⟨⟨v,e⟩,_⟩:=q;cases e
  |exit i=>exact q.elim
  |goto l=>exact q.elim
end
end Go.Sl
namespace Go.Proofs.YtldolcbbmnmjoaaGreat
open Go.RowKit Go.Sl
attribute [local irreducible] Sl.Own
structure mZ where
  x:Option Addr×Nat
  D:aw
abbrev mZ.v(y:mZ):Value:= .tuple #[.slice y.x.1 128 y.x.2,.agg #[ii 0,i6 0]]
abbrev Qo(b:List UInt8)(y:mZ)(R:List ab):List ab:=Sl.Own 5 1 (.slice y.x.1 128 y.x.2) 128 (bytes b)::R
def gB(fr:List Int)(k row:Nat):Prop:=fr.getD k (-1)≠-1/\fr.getD k (-1)<=row
instance dwnDec (fr:List Int)(k row:Nat):Decidable (gB fr k row):=by unfold gB;exact inferInstance
theorem jL{W:World}{R:List ab}(r:Nat)(X:eA)(fr:List Int)(a:fr.length=X.m)(k:Nat)(b:k<X.m)(row:Nat):
  az W Tryz.prog 195 [ip r,ii k,ii row] (de r X fr R) (.bool (decide (gB fr k row))) (de r X fr R):=by
 have h:=M7 (W:=W) (R:=R) r X fr a k b row;have e:fr.getD k (-1)=fr[k]'(a▸b):=by rw[List.getD_eq_getElem?_getD,fL (a▸b)];rfl
 unfold gB;simp only[e];exact h
structure Data(X:eA)(fr:List Int)(K:Kd)(V:Nat->Nat->List UInt8):Prop where
  len:fr.length=X.m
  one:∀i j,i<X.m->j<X.m->fr.getD i (-1)≠-1->fr.getD j (-1)≠-1->i=j
  mu:∀k row,k<X.m->row<X.s*X.c->(V k row).length=128
  par:∀row,row<X.s*X.c->ia (λk=>V k row) X.m=dC
  wait:∀(k row:Nat) d,cq X.wl k row=some d->d=V k row
  is:∀k row,k<X.m->row<X.s*X.c->¬gB fr k row->∃kd,K k=some kd/\1+X.s*X.c<=kd.last.length/\(cq X.wl k row=none->kd.look (1+row)=V k row)
  y0:∀p∈X.wl,p.d.data.length=128
  y4:X.wl.length<=1000000
theorem tM{W:World}{R:List ab}{D:aw}{K:Kd}{V:Nat->Nat->List UInt8}{n c0:Nat}(r:Nat)(X:eA)(j:X.ok)(fr:List Int)(i:Data X fr K V)(E:bq W R X.wo X.wl)(v:Bq D n K c0)(k:Nat)(p:k<X.m)(row:Nat)(f:row<X.s*X.c)(e:(cq X.wl k row).isSome=true\/¬gB fr k row):
    aq W Tryz.prog 161 [ip r,ii k,ii row] (de r X fr (al X.b D::R)) (β:=mZ) (λy=>Bq y.D n K c0) mZ.v (λy=>Qo (V k row) y (de r X fr (al X.b y.D::R))):=by
  have F:X.s*X.c<=256*16:=RC j.s.2 j.c.2;have m:=i.mu k row p f;have B:∀o:Nat,ae W (Sl.Own 3 1 (.slice (ik X.fa) X.m X.m) X.m (j8 fr)::al X.b D::Row o 172 [ii 0,i6 0]::R) R:=λo=>ae.drop (ae.drop (ae.drop ae.refl));refine ze Tryz.func161 Tryz.ntmps161 ?_;refine zq ?_;refine ay.aB sb_172 rfl ?_;intro o;refine zr (s:=xQ r X k) (h:=?_);intro _ _;rw[ky (show 0<=(k:Int)/\(k:Int)<X.m by omega)];refine zt (s:=gn j.m j.c j.s) (h:=?_);intro _ _;refine w ?_;refine VC.aK rfl rfl (gx zO) ?_;refine zr (s:=xU r X k row (E.aR (B o)) i.y0 i.y4) (h:=?_);intro y _;cases g:cq X.wl k row with
  |some d=>
    have C:=i.wait k row d g;subst C;refine w ?_;apply VO.pure rfl rfl;apply af.build sb_172 (pv:=[]) rfl;rfl;rfl;refine zS ([ii 0,i6 0]) ?_;refine VE.results2 (.inl rfl) (mZ.mk y D) rfl (.tmp rfl) (aL.agg (vs:=[ii 0,i6 0]) ah rfl rfl zm rfl rfl) v (by show Value.tuple #[.slice y.1 (V k row).length y.2,_]=_;rw[m]) ?_;rw[show b8 y ((some (V k row)).getD [])=Sl.Own 5 1 (.slice y.1 128 y.2) 128 (bytes (V k row))by show b8 y (V k row)=_;unfold b8;rw[m]];exact ae.re
  |none=>
    have e:¬gB fr k row:=e.resolve_left (by rw[g];simp);obtain⟨H,q,u,b⟩:=i.is k row p f e;have b:=b g;obtain⟨z,A,t⟩:=v.read (a:=1+row) q zO;have c:=λR=>nk (W:=W) (R:=R) X.b D k ((1+row:Nat):Int);rw[A,b,show sliceB=λ(x:Option Addr×Nat)(l:List UInt8)=>Value.slice x.1 l.length x.2 from rfl]at c;simp only[m]at c;refine zr (s:=jL r X fr i.len k p row) (h:=?_);intro _ _;rw[gx e];refine w ?_;refine VO.re 57 (ii ((1+row:Nat):Int)) rfl (by congr 1) ?_;refine zr (s:=c _) (h:=?_);intro x G;refine zt (s:=l8 k 0) (h:=?_);intro _ _;refine zS ([ii 0,i6 0]) ?_;refine VE.results2 (.inl rfl) (mZ.mk x z) rfl (.tmp rfl) (aL.agg (vs:=[ii 0,i6 0]) ah rfl rfl zm rfl rfl) t rfl ?_;rw[show b8 x (V k row)=Sl.Own 5 1 (.slice x.1 128 x.2) 128 (bytes (V k row))by unfold b8;rw[m]];exact ae.re
abbrev BM:aU:=⟨none,0,[]⟩
theorem Gw{W:World}{R:List ab}{D:aw}{K:Kd}{V:Nat->Nat->List UInt8}{n c0:Nat}(r:Nat)(X:eA)(J:X.ok)(fr:List Int)(A:Data X fr K V)(v:bq W R X.wo X.wl)(hq:Bq D n K c0)(k:Nat)(Y:k<X.m)(row:Nat)(c:row<X.s*X.c)(U:gB fr k row):
    aq W Tryz.prog 243 [ip r,ii k,ii row] (de r X fr (al X.b D::R)) (β:=mZ) (λy=>Bq y.D n K c0) mZ.v (λy=>Qo (V k row) y (de r X fr (al X.b y.D::R))):=by
  have ad:=J.m;have Q:∀i,i<X.m->i≠k->¬gB fr i row:=λi S l T=>l (A.one i k S Y T.1 U.1);have eW:∀t:Nat,ae W (Sl.Own 3 1 (.slice (ik X.fa) X.m X.m) X.m (j8 fr)::al X.b D::Row t 172 [ii 0,i6 0]::R) R:=λt=>ae.drop (ae.drop (ae.drop ae.refl));refine ze Tryz.func243 Tryz.ntmps243 ?_;refine zq ?_;refine ay.aB sb_172 rfl ?_;intro t;refine w ?_
  refine VC.loop (α:=Nat) (λi=>i<=X.m) (λ_=>Row t 172 [ii 0,i6 0]::de r X fr (al X.b D::R))
    (λi=>[(0,ip r),(1,ii k),(2,ii row),(7,ip t),(21,ii X.m),(22,ii i)]) (λi=>X.m-i) rfl 0 (c7 _) ae.re ⟨rfl,rfl,rfl,rfl,rfl,rfl,trivial⟩ ?_
  intro i S;refine w ?_;refine zk ?_ ?_<;>intro u
  · have b:i<X.m:=by have:=cI u;omega
    refine zr (s:=xU r X i row (v.aR (eW t)) A.y0 A.y4) (h:=?_)
    intro yw _
    refine w ?_
    refine zg ?_ ?_<;>intro hb
    · have l:i≠k:=by
        intro e;subst e;have:((i:Int) != (i:Int))=true:=hb;simp at this
      refine zr (s:=jL r X fr A.len i b row) (h:=?_);intro _ _
      rw[gx (Q i b l)]
      refine w ?_
      exact VE.round (i+1) b zO ⟨rfl,rfl,rfl,rfl,rfl,b7 rfl (by congr 1),trivial⟩ ae.re
    · refine w ?_
      exact VE.round (i+1) b zO ⟨rfl,rfl,rfl,rfl,rfl,b7 rfl (by congr 1),trivial⟩ ae.re
  clear u;refine zw ?_;refine ay.dd (m:=X.m) yf rfl rfl rfl zO (by simp only[maxLen];omega) rfl ?_;intro z;refine w ?_
  refine VC.loop (α:=Nat×List aU×aw) (λy=>y.1<=X.m/\y.2.1.length=y.1/\Bq y.2.2 n K c0/\∀j (h:j<y.2.1.length),j≠k->y.2.1[j].data=V j row)
    (λy=>Sl.Own 38 1 (.slice (ik z) X.m X.m) X.m (y.2.1.map aU.ei++List.replicate (X.m-y.1) (.slice none 0 0))::cP y.2.1::Row t 172 [ii 0,i6 0]::de r X fr (al X.b y.2.2::R))
    (λy=>[(0,ip r),(1,ii k),(2,ii row),(7,ip t),(11,.slice (ik z) X.m X.m),(54,ii X.m),(55,ii y.1)]) (λy=>X.m-y.1) rfl (0,[],D) ⟨c7 _,rfl,hq,λj h=>lcs h (Nat.not_lt_zero _)⟩
    (ae.trans (λw v=>di (res:=aU.res) v) (by simp only[HG,ou,Nat.sub_zero];exact ae.re)) ⟨rfl,rfl,rfl,rfl,rfl,rfl,rfl,trivial⟩ ?_
  rintro⟨i,L,D'⟩ ⟨S,C,B,d⟩;dsimp only at S C B d⊢;refine VC.bH (λw v=>cP.bH v.tail) ?_;intro Z;refine w ?_;refine zk ?_ ?_<;>intro u
  · have b:i<X.m:=by have:=cI u;omega
    clear u
    have E:∀e:aU,(L.map aU.ei++List.replicate (X.m-i) (Value.slice none 0 0)).set i e.ei=(L++[e]).map aU.ei++List.replicate (X.m-(i+1)) (Value.slice none 0 0):=λe=>by
      rw[show X.m-i=X.m-(i+1)+1 by omega,List.replicate_succ,jv,KR _ _ (by rw[ew];omega),ew,C,E7,List.set_cons_zero,lx];rfl
    refine w ?_
    refine zk ?_ ?_<;>intro u
    · have N:i=k:=by have:=u;simp at this;omega
      refine w ?_
      refine VE.round (i+1,L++[BM],D') ⟨b,by rw[c9,ie,C],B,λj p H=>?_⟩ (by dsimp only;omega) ⟨rfl,rfl,rfl,rfl,rfl,rfl,b7 rfl (by congr 1),trivial⟩ ?_
      · have p:j<L.length:=by
          rw[c9,ie]at p;omega
        dsimp only
        rw[TV p]
        exact d j p H
      · dsimp only
        rw[<-E BM,KR _ _ (by rw[ew];omega),ew,C,E7,show X.m-i=X.m-(i+1)+1 by omega,List.replicate_succ,List.set_cons_zero]
        exact λw v=>(ae.re:ae W (cP (L++[BM])::_::_) _) w (du (res:=aU.res) (a:=BM) ((ae.re:ae W (Sl.Own 5 1 (.slice none 0 0) 0 []::_::cP L::_) _) w (v.aZ 5 1)))
    · have N:i≠k:=by
        intro e;subst e;have:((i:Int)==(i:Int))=false:=u;simp at this
      refine w ?_
      have I:=A.mu i row b c
      have F:=tM (W:=W) (R:=Sl.Own 38 1 (.slice (ik z) X.m X.m) X.m (L.map aU.ei++List.replicate (X.m-i) (.slice none 0 0))::cP L::Row t 172 [ii 0,i6 0]::R) r X J fr A (v.aR (ae.drop (ae.drop (ae.drop ae.refl)))) B i b row c (.inr (Q i b N))
      obtain⟨o,O⟩:∃o,V i row=o:=⟨_,rfl⟩
      rw[O]at F I
      refine zr (s:=F) (h:=?_)
      rintro⟨x,D2⟩ P
      dsimp only at P⊢
      refine zw ?_;refine ay.aB sb_172 rfl ?_;intro n14
      refine zS ([ii 0,i6 0]) ?_
      refine VO.re 74 (aU.ei ⟨x.1,x.2,o⟩) rfl (by show Value.slice x.1 128 x.2=Value.slice x.1 o.length x.2;rw[I]) ?_
      refine zq ?_
      refine ay.EJ ah rfl rfl rfl rfl zh (by rw[c9,ew,j0];omega) ?_
      rw[E]
      have er:Sl.Own 5 1 (.slice x.1 128 x.2) 128 (bytes o)=aU.res ⟨x.1,x.2,o⟩:=by unfold aU.res;dsimp only;rw[I]
      dsimp only[Qo]
      rw[er]
      refine w ?_
      refine VE.round (i+1,L++[⟨x.1,x.2,o⟩],D2) ⟨b,by rw[c9,ie,C],P,λj p H=>?_⟩ (by dsimp only;omega) ⟨rfl,rfl,rfl,rfl,rfl,rfl,b7 rfl (by congr 1),trivial⟩ ?_
      · rw[c9,ie]at p
        dsimp only
        rcases w9 j L.length with q|q
        · rw[TV q]
          exact d j q H
        · obtain rfl:j=L.length:=by omega
          rw[List.getElem_concat_length rfl];show o=V L.length row;rw[C];exact O.symm
      · dsimp only
        exact λw v=>(ae.re:ae W (cP (L++[aU.mk x.1 x.2 o])::_) _) w (du (res:=aU.res) (a:=⟨x.1,x.2,o⟩) ((ae.re:ae W _ (aU.res ⟨x.1,x.2,o⟩::cP L::Sl.Own 38 1 (.slice (ik z) X.m X.m) X.m ((L++[aU.mk x.1 x.2 o]).map aU.ei++List.replicate (X.m-(i+1)) (.slice none 0 0))::Row t 172 [ii 0,i6 0]::de r X fr (al X.b D2::R))) w v))
  have M:i=X.m:=by have:=dx u;omega
  clear u;have hO:Sl.Own 38 1 (.slice (ik z) X.m X.m) X.m (L.map aU.ei++List.replicate (X.m-i) (.slice none 0 0))=iC (ik z,X.m) L:=by
    unfold iC;rw[C,M];simp
  rw[hO];have aa:qI W (iC (ik z,X.m) L::cP L::Row t 172 [ii 0,i6 0]::de r X fr (al X.b D'::R)) (ik z) L:=qI.own (x:=(ik z,X.m)) (by simp) Z zm zm;refine w ?_;have T:∀j (h:j<L.length),j≠k->L[j].data.length=128:=λj p l=>by rw[d j p l];exact A.mu j row zO c
  have G:=KM (W:=W) (cap:=X.m) J.m J.c J.s Y c L (C.trans M) aa T
  rw[jQ (g:=λi=>if i=k then dC else V i row) (λj p=>by split;· rfl
                                                       · rename_i l;rw[vv zO];exact d j zO l),GZ (f:=λi=>V i row) (λj p=>A.mu j row p c) Y (A.par row c)]at G
  refine zt (s:=G) (h:=?_);intro x2 _;refine zt (s:=l8 0 0) (h:=?_);intro _ _;refine zS ([ii 0,i6 0]) ?_;exact VE.results2 (.inl rfl) (mZ.mk x2 D') rfl (.tmp rfl) (aL.agg (vs:=[ii 0,i6 0]) ah rfl rfl zm rfl rfl) B rfl ae.re
theorem xT{W:World}{R:List ab}{D:aw}{K:Kd}{V:Nat->Nat->List UInt8}{n c0:Nat}(r:Nat)(X:eA)(b:X.ok)(fr:List Int)(d:Data X fr K V)(g:bq W R X.wo X.wl)(m:Bq D n K c0)(k:Nat)(f:k<X.m)(row:Nat)(a:row<X.s*X.c):
  aq W Tryz.prog 161 [ip r,ii k,ii row] (de r X fr (al X.b D::R)) (β:=mZ) (λy=>Bq y.D n K c0) mZ.v (λy=>Qo (V k row) y (de r X fr (al X.b y.D::R))):=by
 have q:X.s*X.c<=256*16:=RC b.s.2 b.c.2;have o:∀e:Nat,ae W (Sl.Own 3 1 (.slice (ik X.fa) X.m X.m) X.m (j8 fr)::al X.b D::Row e 172 [ii 0,i6 0]::R) R:=λe=>ae.drop (ae.drop (ae.drop ae.refl));by_cases c:(cq X.wl k row).isSome=true\/¬gB fr k row
 · exact tM r X b fr d g m k f row a c
 have i:cq X.wl k row=none:=by simpa using λh=>c (.inl h)
 have l:gB fr k row:=Decidable.byContradiction λh=>c (.inr h);refine ze Tryz.func161 Tryz.ntmps161 ?_;refine zq ?_;refine ay.aB sb_172 rfl ?_;intro e;refine zr (s:=xQ r X k) (h:=?_);intro _ _;rw[ky (show 0<=(k:Int)/\(k:Int)<X.m by omega)];refine zt (s:=gn b.m b.c b.s) (h:=?_);intro _ _;refine w ?_;refine VC.aK rfl rfl (gx zO) ?_;refine zr (s:=xU r X k row (g.aR (o e)) d.y0 d.y4) (h:=?_);intro p _;rw[i];refine zr (s:=jL r X fr d.len k f row) (h:=?_);intro _ _;rw[ky l];refine zr (s:=Gw (R:=b8 p []::Row e 172 [ii 0,i6 0]::R) r X b fr d (g.aR (ae.drop (ae.drop ae.refl))) m k f row a l) (h:=?_);rintro⟨x,D'⟩ j;dsimp only at j⊢;refine zS ([ii 0,i6 0]) ?_;exact VE.results2 (.inl rfl) (mZ.mk x D') rfl (.tmp rfl) (aL.agg (vs:=[ii 0,i6 0]) ah rfl rfl zm rfl rfl) j rfl ae.re
theorem Nl{W:World}{R:List ab}{D:aw}{K:Kd}{V:Nat->Nat->List UInt8}{n c0:Nat}(r:Nat)(X:eA)(a:X.ok)(fr:List Int)(i:Data X fr K V)(m:bq W R X.wo X.wl)(l:Bq D n K c0)(k:Nat)(j:k<X.s*X.c* (X.m-1)):
  aq W Tryz.prog 100 [ip r,ii k] (de r X fr (al X.b D::R)) (β:=mZ) (λy=>Bq y.D n K c0) mZ.v (λy=>Qo (V (cJ X.m X.c k).av (cJ X.m X.c k).row) y (de r X fr (al X.b y.D::R))):=by
 refine ze Tryz.func100 Tryz.ntmps100 ?_;refine zq ?_;refine ay.aB sb_172 rfl ?_;intro p;refine zt (s:=zX a.m a.c a.s j) (h:=?_);rintro⟨st,row,b,f⟩ ⟨⟨c,d⟩,g⟩;rw[<-g];dsimp only at c d⊢;refine zw ?_;refine ay.aB sb_246 rfl ?_;intro o;refine zS ([ii st,ii row,ii b,ii f]) ?_;refine zr (s:=xT (R:=Row o 246 [ii st,ii row,ii b,ii f]::Row p 172 [ii 0,i6 0]::R) r X a fr i (m.aR (ae.drop (ae.drop ae.refl))) l b d row c) (h:=?_);rintro⟨x,D'⟩ e;dsimp only at e⊢;refine zS ([ii 0,i6 0]) ?_;exact VE.results2 (.inl rfl) (mZ.mk x D') rfl (.tmp rfl) (aL.agg (vs:=[ii 0,i6 0]) ah rfl rfl zm rfl rfl) e rfl ae.re
end Go.Proofs.YtldolcbbmnmjoaaGreat
namespace Go.Proofs.YtldolcbbmnmjoaaGreat
open Go.RowKit Go.Sl
attribute [local irreducible] Sl.Own
structure Bq2(D:aw)(n:Nat)(K:Kd)(c:Nat):Prop extends Bq0 D n K c where
  lit:D.rQ=false
  c8:-1<=D.c8/\D.c8<=9223372036854775807
structure Did(D D':aw)(N:Nat):Prop where
  calm:D.c8=-1->D'.c8=-1
  tr:0<=D.c8->0<=D'.c8/\D'.c8=D.c8-N
  lO:SD D'.n=IntKind.i64.wrap (SD D.n+N)
structure Bq1(D0:aw)(N:Nat)(D:aw)(n:Nat)(K:Kd)(c:Nat):Prop extends Bq0 D n K c where
  rQ:D.rQ=true
  lo:0<=D0.c8
  lt:D0.c8<N
variable{D D' E:aw}{n c c' i a N M:Nat}{K:Kd}{k k':ak}{js:List Nat}
theorem wrap_wrap(a b:Int):IntKind.i64.wrap (IntKind.i64.wrap a+b)=IntKind.i64.wrap (a+b):=by
 simp only[IntKind.wrap_i64];omega
theorem Did.refl(D:aw):Did D D 0:=⟨λh=>h,λh=>⟨h,by omega⟩,by
 unfold SD;simp only[IntKind.wrap_i64];omega⟩
theorem Did.trans(h:Did D E N)(g:Did E D' M):Did D D' (N+M):=⟨λq=>g.calm (h.calm q),λq=>by
 obtain⟨b,a2⟩:=h.tr q;obtain⟨d,e⟩:=g.tr b;exact⟨d,by omega⟩,by rw[g.lO,h.lO,wrap_wrap,Int.add_assoc];rfl⟩
theorem Bq1.after(f:Did D E M)(e:-1<=D.c8)(h:Bq1 E N D' n K c):Bq1 D (M+N) D' n K c:=by
 have d:0<=D.c8:=by
  have:=h.lo;by_cases q:D.c8=-1
  · have:=f.calm q;omega
  · omega
 obtain⟨a,b⟩:=f.tr d;exact⟨h.toBq0,h.rQ,d,by have:=h.lt;omega⟩
theorem Bq1.mono(h:Bq1 D N D' n K c)(d:N<=M)(b:c<=c'):Bq1 D M D' n K c':=⟨⟨h.len,h.is,h.cap.mono b,h.out⟩,h.rQ,h.lo,by have:=h.lt;omega⟩
theorem inc_sum(c:Fa)(j:Nat):SD (c.inc j)=IntKind.i64.wrap (SD c+1):=by
 obtain⟨r,w,f⟩:=c;unfold SD Fa.inc;rcases j with _|_|j<;>(simp only[IntKind.wrap_i64];omega)
theorem fold_sum:∀(js:List Nat)(c:Fa),SD (js.foldl Fa.inc c)=IntKind.i64.wrap (SD c+js.length)
 |[],c=>by unfold SD;simp only[List.foldl_nil,List.length_nil,IntKind.wrap_i64];omega
 |j::r,c=>by rw[List.foldl_cons,fold_sum r,inc_sum,wrap_wrap];congr 1;rw[tc];omega
theorem yB.did(f:yB i js D D'):Did D D' js.length:=⟨f.calm,f.tr,by rw[f.lO,fold_sum]⟩
theorem Bq.bq0(h:Bq D n K c):Bq2 D n K c:=⟨h.toBq0,h.lit,by rw[h.c8];decide⟩
theorem Bq2.bq1(h:Bq2 D n K c)(q:D.c8=-1):Bq D n K c:=⟨h.toBq0,h.lit,q⟩
theorem Bq2.mono(h:Bq2 D n K c)(b:c<=c'):Bq2 D n K c':=⟨⟨h.len,h.is,h.cap.mono b,h.out⟩,h.lit,h.c8⟩
theorem Bq2.pw(h:Bq2 D n K c)(b:K i=some k):Pw D i k:=⟨(h.is i k b).1,h.lit,(h.is i k b).2.1,h.c8⟩
theorem Bq2.Pa(h:Bq2 D n K c)(b:Pw D' i k')(g:k'.ok)(e:k'.cache.length<=c')(d:c<=c')(f:yB i js D D'):Bq2 D' n (ez K i k') c':=⟨h.toBq0.at b.slot b.live g e d f.len f.KT,b.lit,b.c8⟩
theorem Bq2.dq0(h:Bq2 D n K c)(b:Dkb D N D' i k')(f:k'.ok)(e:k'.cache.length<=c')(d:c<=c'):Bq1 D N D' n (ez K i k') c':=⟨h.toBq0.at b.slot b.live f e d b.len b.KT,b.rQ,b.lo,b.lt⟩
theorem Bq2.Rw(h:Bq2 D n K c)(b:K i=some k):k.cache.length<=c:=O1 h.cap (h.is i k b).1
theorem Bq2.read(h:Bq2 D n K c)(b:K i=some k)(d:a<k.last.length):(∃D',D.read (i:Int) ((a:Nat):Int)=((k.look a,0),D')/\Bq2 D' n K c/\Did D D' 1)\/∃D',D.read (i:Int) ((a:Nat):Int)=(([],50),D')/\Bq1 D 1 D' n K c:=by
 rcases read_pwd (h.pw b) d with⟨D',e,p,f⟩|⟨D',e,g⟩
 ·
  have:=h.Pa p (h.is i k b).2.2 (h.Rw b) (eI _) f;rw[pz b]at this;exact .inl ⟨D',e,this,f.did⟩
 ·
  have:=h.dq0 g (h.is i k b).2.2 (h.Rw b) (eI _);rw[pz b]at this;exact .inr ⟨D',e,this⟩
theorem Bq2.write(h:Bq2 D n K c)(d:K i=some k){b:List UInt8}(l:a<k.last.length)(j:b.length=128):(∃D',D.write (i:Int) ((a:Nat):Int) b=(0,D')/\Bq2 D' n (ez K i (k.write a b)) (c+1)/\Did D D' 1)\/∃D',D.write (i:Int) ((a:Nat):Int) b=(50,D')/\Bq1 D 1 D' n K c:=by
 rcases vJ (v:=⟨i,0,0,0,0,0,true,none,0⟩) (h.pw d) rfl rfl l j with⟨D',e,p,f⟩|⟨q,D',e,g⟩
 ·
  refine .inl ⟨D',?_,h.Pa p (ak.AV (h.is i k d).2.2 (by omega) j) (by show(k.cache++[_]).length<=_;have:=h.Rw d;rw[c9];simp;omega) (Nat.le_succ c) f,f.did⟩;simp only[AM,if_true,Prod.mk.injEq]at e;exact Prod.ext e.1 e.2.2
 ·
  have:=h.dq0 g (h.is i k d).2.2 (h.Rw d) (eI _);rw[pz d]at this;refine .inr ⟨D',?_,this⟩;simp only[AM,if_true,Prod.mk.injEq]at e;exact Prod.ext e.1 e.2.2
end Go.Proofs.YtldolcbbmnmjoaaGreat
namespace Go.Proofs.YtldolcbbmnmjoaaGreat
open Go.RowKit Go.Sl
attribute [local irreducible] Sl.Own
def yL:Option aj->List Value
  |none=>mw
  |some p=>p.cells
def rowOf(r:Int):Option aj->Int
  |none=>r
  |some p=>p.row
def BW(ps:List aj):Option aj->List aj
  |none=>ps
  |some p=>ps.filter λx=>x.place≠p.place
def K8(r:Int)(ps:List aj):Option aj->Prop
  |none=>ps=[]
  |some p=>p∈ps/\AZ r (ps.map aj.place) p.place
theorem Db(c:Option aj):∀u∈yL c,u.oneCell'=true:=by
 cases c with
 |none=>simp[yL,Value.oneCell']
 |some p=>exact dI p
theorem Da(c:Option aj):(yL c).length=3:=by cases c<;>rfl
theorem oT{W:World}{R:List ab}{b:Nat}{r:Int}{ps:List aj}(a:ps.length<=800000):
  aq W Tryz.prog 194 [ip b] (dT b r ps::R) (β:=Option aj) (K8 r ps) (λc=>.tuple #[.agg (yL c).toArray,.bool c.isSome])
   (λc=>bX c.toList::dT b (rowOf r c) (BW ps c)::R):=by
 by_cases h:ps=[]
 ·
  subst h;exact aq.mono (yO (R:=R)) (λ_=>none) (λ_ _=>rfl) (λ_ _=>rfl) (λ_ _=>λw d=>di d)
 ·
  refine aq.mono (DN (R:=R) h a) (λp=>some p) (λ_ h=>h) (λ_ _=>rfl) (λp _=>λw d=>?_);exact pZ (l:=[]) (di d).swap
inductive Take(r:Int)(ps:List aj):List aj->Int->List aj->Prop where
  |nil:Take r ps [] r ps
  |snoc {l:List aj} {r1:Int} {ps1:List aj} {p:aj} (h:Take r ps l r1 ps1) (hp:p∈ps1) (hn:AZ r1 (ps1.map aj.place) p.place):Take r ps (l++[p]) p.row (ps1.filter λx=>x.place≠p.place)
theorem Take.step{r:Int}{ps l a:List aj}{b:Int}(h:Take r ps l b a){c:Option aj}(d:K8 b a c):Take r ps (l++c.toList) (rowOf b c) (BW a c):=by
 cases c with
 |none=>simpa[rowOf,BW]using h
 |some p=>exact h.snoc d.1 d.2
theorem oO{ps:List aj}{p:aj}(a:p∈ps):(ps.filter λx=>x.place≠p.place).length<ps.length:=by
 obtain⟨s,t,rfl⟩:=List.append_of_mem a;rw[oS,List.filter_cons_of_neg (by simp),c9,c9,tc];have b:=uy (λx:aj=>decide (x.place≠p.place)) s;have c:=uy (λx:aj=>decide (x.place≠p.place)) t;omega
theorem PU{ps:List aj}{r:Int}{c:Option aj}(h:K8 r ps c):(BW ps c).length+c.toList.length<=ps.length:=by
 cases c with
 |none=>simp[BW]
 |some p=>have:=oO h.1;simp only[BW,Option.toList,ie];omega
theorem Take.length{r:Int}{ps l a:List aj}{c:Int}(h:Take r ps l c a):l.length+a.length<=ps.length:=by
 induction h with
 |nil=>simp
 |snoc h b d e=>have:=oO b;rw[c9,ie];omega
structure SV where
  l:List aj
  c:Option aj
  r:Int
  ps:List aj
  so:Option Addr
  sc:Nat
  n:Nat
theorem F1{W:World}{R:List ab}{b:Nat}{r:Int}{ps:List aj}(n:ps.length<=800000):
    aq W Tryz.prog 130 [ip b] (dT b r ps::R) (β:=(Option Addr×Nat)×List aj×Int) (λy=>Take r ps y.2.1 y.2.2 []) (λy=>.slice y.1.1 y.2.1.length y.1.2)
      (λy=>bL y.1 y.2.1::bX y.2.1::dT b y.2.2 []::R):=by
  (refine aq.enter Tryz.func130 Tryz.ntmps130 rfl rfl ?_);refine zt (s:=oT (R:=R) n) (h:=?_);intro c q;refine zw ?_;refine ay.aB sb_207 rfl ?_;intro v;refine zq ?_;refine ay.gL (vs:=yL c) ah rfl rfl rfl (Da c) (Db c) zh (by simp) ?_;refine w ?_;refine VC.aR (λw o=>Holds.aZ 207 3 (di (res:=aj.res) o)) ?_
  refine VC.loop (α:=SV) (λy=>Take r ps (y.l++y.c.toList) y.r y.ps/\(y.c=none->y.ps=[])) (λy=>bL (y.so,y.sc) y.l::bX y.l::Row y.n 207 (yL y.c)::bX y.c.toList::dT b y.r y.ps::R)
    (λy=>[(0,ip b),(3,.slice y.so y.l.length y.sc),(4,ip y.n),(5,.bool y.c.isSome)]) (λy=>y.ps.length+y.c.toList.length) rfl
    ⟨[],c,rowOf r c,BW ps c,none,0,v⟩ ⟨Take.nil.step q,λh=>by subst h;exact q⟩ ?_ zB ?_
  · cases c<;>exact ae.re
  rintro⟨l,t,k,d,z,x,A⟩ ⟨j,g⟩;dsimp only at j g⊢;have i:=j.length;rw[c9]at i;refine w ?_;cases t with
  |none=>
    have:=g rfl;subst this;refine VC.aK rfl rfl (rfl) ?_;refine w ?_;refine VE.done ((z,x),l,k) rfl (by simpa using j) rfl ?_;exact ae.re
  |some p=>
    refine VC.cU rfl rfl (rfl) ?_;refine w ?_;refine VO.re 18 (.agg p.cells.toArray) rfl rfl ?_;refine zq ?_;refine ay.buildSlice (cs:=p.cells) st_126 rfl rfl (by simp[Value.cells]) (by simp[Value.cells]) (by decide) rfl ?_;intro nb;refine zq ?_;refine ay.cg st_126 rfl rfl zh zm rfl (dI p) (by simp only[maxLen];omega) zO rfl ?_;intro f e;refine w ?_;refine VO.re 21 (.agg p.cells.toArray) rfl rfl ?_;refine zq ?_;refine ay.aB sb_207 rfl ?_;intro n5;refine zl p.cells (dI p) ?_;refine zr (s:=oT (R:=Row n5 207 p.cells::bX (some p).toList::Sl.Own 207 3 (.slice f (l.length+1) e) (l.length+1) (bg l++p.cells)::bX l::R) (b:=b) (r:=k) (ps:=d) zO) (h:=?_);intro c2 a;refine zw ?_;refine ay.gL (vs:=yL c2) ah rfl rfl rfl (Da c2) (Db c2) zh (by simp) ?_;refine w ?_;have m:=PU a;refine VE.round (⟨l++[p],c2,rowOf k c2,BW d c2,f,e,n5⟩:SV) ⟨by simpa using j.step a,λh=>by subst h;exact a⟩ (by dsimp only[Option.toList];simp only[ie];simp only[Option.toList]at m;omega) ⟨rfl,b7 rfl (by simp),rfl,b7 rfl (by rfl),trivial⟩ ?_;dsimp only;have u:List.take 0 p.cells++yL c2++List.drop (0+3) p.cells=yL c2:=by simp
    rw[u];unfold bL;rw[im,c9,ie];refine ae.trans (ae.re (L:=bX l::bX [p]::Sl.Own 207 3 (.slice f (l.length+1) e) (l.length+1) (bg l++p.cells)::Row n5 207 (yL c2)::bX c2.toList::dT b (rowOf k c2) (BW d c2)::R)) λw o=>?_;exact(Aw o).swap
abbrev cD:List Value:=[ii 0,i6 0]
abbrev trT(s e:Nat):List Value:=[ii s,i6 e]
structure aj.Of(X:eA)(p:aj):Prop where
  m:0<=p.av/\p.av<X.m
  r:0<=p.row/\p.row<((X.s*X.c:Nat):Int)
  n:p.d.data.length=128
structure K9(f:Nat->Nat->Option (List UInt8))(i:Nat)(k k':ak):Prop where
  len:k'.last.length=k.last.length
  look:∀a,k'.look a=(f i a).getD (k.look a)
  sr:∀a x,(∀d,f i a=some d->d=x)->Sr k a x->Sr k' a x
  same:(∀a,f i a=none)->k'=k
def fA(f:Nat->Nat->Option (List UInt8))(K a:Kd):Prop:=∀i,(K i=none->a i=none)/\∀k,K i=some k->∃b,a i=some b/\K9 f i k b
theorem fA.refl{f:Nat->Nat->Option (List UInt8)}{K:Kd}(h:∀i a,f i a=none):fA f K K:=λi=>⟨λq=>q,λk q=>⟨k,q,rfl,λa=>by rw[h];rfl,λa x _ q=>q,λ_=>rfl⟩⟩
theorem fA.to{f b:Nat->Nat->Option (List UInt8)}{K c:Kd}(h:fA f K c)(e:∀i a,b i a=f i a):fA b K c:=by rwa [show b=f from funext λi=>funext λa=>e i a]
theorem fA.step{f m:Nat->Nat->Option (List UInt8)}{K p:Kd}{i a:Nat}{d:List UInt8}{u:ak}(h:fA f K p)(t:p i=some u)(z:f i a=none)(n:m i a=some d)(s:∀j b,¬(j=i/\b=a)->m j b=f j b):fA m K (ez p i (u.write a d)):=λj=>by
 by_cases e:j=i
 ·
  subst e;refine⟨λq=>(by rw[(h j).1 q]at t;cases t),λk q=>?_⟩;obtain⟨v,c,g⟩:=(h j).2 k q;rw[t]at c;cases c;refine⟨_,eZ _ _ _,g.len,λb=>?_,λb x o A=>?_,λq=>by rw[q a]at n;cases n⟩
  ·
   rw[lM];split
   · rename_i e;rw[e,n];rfl
   · rename_i e;rw[g.look,s j b λq=>e q.2]
  ·
   refine Sr.write (g.sr b x (λy l=>?_) A) λe=>o d (e▸n);by_cases e:b=a
   · rw[e,z]at l;cases l
   · exact o y (by rw[s j b λq=>e q.2];exact l)
 ·
  refine⟨λq=>by rw[dH _ _ e];exact(h j).1 q,λk q=>?_⟩;obtain⟨v,c,g⟩:=(h j).2 k q;have r:∀b,m j b=f j b:=λb=>s j b λq=>e q.1;exact⟨v,by rw[dH _ _ e];exact c,g.len,λb=>by rw[r];exact g.look b,λb x o=>g.sr b x (λd l=>o d (by rw[r];exact l)),λq=>g.same λb=>by rw[<-r];exact q b⟩
theorem AN(ps:List aj)(q:aj)(k row:Int):cq (qn ps q) k row=if q.av=k/\q.row=row then some q.d.data else cq ps k row:=by
 unfold cq qn;rw[List.find?_append,List.find?_filter];by_cases h:q.av=k/\q.row=row
 ·
  rw[lam h,Tm.2 λx b=>by
   simp only[sH,aj.place,mV,decide_eq_true_eq,not_and,ne_eq,decide_not,Bool.not_eq_true',decide_eq_false_iff_not];intro c d f;exact c (Prod.ext (d.trans h.1.symm) (f.trans h.2.symm))]
  simp[sH,h]
 ·
  rw[aE h];have e:(ps.find? λa=>decide (decide (a.place≠q.place)=true/\sH k row a=true))=ps.find? (sH k row):=by
   congr 1;funext x;by_cases b:x.av=k/\x.row=row
   ·
    have:x.place≠q.place:=λe=>h ⟨(JB Prod.fst e).symm.trans b.1,(JB Prod.snd e).symm.trans b.2⟩;simp[sH,b,this]
   · simp[sH,b]
  rw[e];simp[sH,h]
theorem jP{l:List aj}{k row:Int}{d:List UInt8}(h:cq l k row=some d):∃p∈l,p.av=k/\p.row=row/\p.d.data=d:=by
 obtain⟨p,a,e⟩:=Option.map_eq_some_iff.1 h;have:=List.find?_some a;simp only[sH,decide_eq_true_eq]at this;exact⟨p,List.mem_of_find?_eq_some a,this.1,this.2,e⟩
theorem AO(l:List aj)(p:aj)(k row:Int):cq (l++[p]).reverse k row=if p.av=k/\p.row=row then some p.d.data else cq l.reverse k row:=by
 unfold cq;rw[SR,List.reverse_singleton,List.singleton_append,List.find?_cons];by_cases h:p.av=k/\p.row=row
 · simp[sH,h]
 · simp[sH,h]
def sI(fr:List Int)(l:List aj)(i a:Nat):Option (List UInt8):=if a=0\/gB fr i (a-1)then none else cq l.reverse i ((a-1:Nat):Int)
theorem KC{ps:List aj}(b:(ps.map aj.place).Nodup){p:aj}(a:p∈ps):cq ps p.av p.row=some p.d.data:=by
  induction ps with
  |nil=>cases a
  |cons q r c=>
    rw[BI,List.nodup_cons]at b;unfold cq;rw[List.find?_cons];by_cases h:q.av=p.av/\q.row=p.row
    · have:p=q:=by
        cases a with
        |head=>rfl
        |tail _ a=>exact lcs (show q.place∈r.map aj.place from(show q.place=p.place from Prod.ext h.1 h.2)▸List.mem_map_of_mem a) b.1
      rw[this];simp[sH]
    · have:p∈r:=by
        cases a with
        |head=>exact lcs ⟨rfl,rfl⟩ h
        |tail _ a=>exact a
      simp only[sH,h,decide_false]
      exact c b.2 this
theorem filter_one{a:List aj}{p:aj}(b:(a.map aj.place).Nodup)(c:p∈a):(a.filter λx=>x.place≠p.place).length+1=a.length:=by
  induction a with
  |nil=>cases c
  |cons q r i=>
    rw[BI,List.nodup_cons]at b;rw[List.filter_cons];by_cases e:q.place=p.place
    · rw[aE (by simp[e]),List.filter_eq_self.2 λx g=>ky (show aj.place x≠p.place from λd=>b.1 (by rw[e,<-d];exact List.mem_map_of_mem g))]
      rfl
    · have f:p∈r:=(List.mem_cons.1 c).resolve_left λh=>e (by rw[h])
      rw[lam (ky (show aj.place q≠p.place from e)),tc,i b.2 f];rfl
structure PlcY where
  D:aw
  K:Kd
  e:Nat
  s:Nat
def PlcOk(D:aw)(n:Nat)(K:Kd)(c m:Nat)(fr:List Int)(l:List aj)(y:PlcY):Prop:=
  (y.e=0/\y.s=0/\Bq2 y.D n y.K c/\fA (sI fr l) K y.K/\∃N,Did D y.D N/\N<=l.length/\((l.map aj.place).Nodup->(∀k row,k<m->¬gB fr k row)->N=l.length))\/
  (y.e=50/\Bq1 D l.length y.D n y.K c/\∃f,(∀i a d,f i a=some d->sI fr l i a=some d)/\fA f K y.K)
theorem rplacd_ok{W:World}{R:List ab}{D:aw}{K:Kd}{n c0:Nat}{ao:Option Addr}{cap:Nat}(r:Nat)(X:eA)(hX:X.ok)(fr:List Int)(ba:fr.length=X.m)(br:∀k row,k<X.m->row<X.s*X.c->¬gB fr k row->∃kd,K k=some kd/\1+X.s*X.c<=kd.last.length)(hq:Bq2 D n K c0)(l:List aj)(J:bq W R ao l)(bf:∀p∈l,p.Of X)(hl:l.length<=800000)(ch:c0<=1000000):
    aq W Tryz.prog 133 [ip r,.slice ao l.length cap] (de r X fr (al X.b D::R)) (β:=PlcY) (PlcOk D n K (c0+l.length) (X.m) fr l) (λy=>.agg (trT y.s y.e).toArray) (λy=>de r X fr (al X.b y.D::R)):=by
  have h4:X.s*X.c<=256*16:=RC hX.s.2 hX.c.2;have cc:=hX.m;refine aq.enter Tryz.func133 Tryz.ntmps133 rfl rfl ?_;refine w ?_;refine zq ?_;refine ay.aB sb_172 rfl ?_;intro N;refine w ?_
  refine VC.loop (α:=Nat) (λi=>i<=l.length) (λ_=>Row N 172 cD::de r X fr (al X.b D::R))
    (λi=>[(0,ip r),(1,.slice ao l.length cap),(4,ip N),(15,.slice ao l.length cap),(16,ii l.length),(17,ii i)]) (λi=>l.length-i) rfl 0 (c7 _) ae.re ⟨rfl,rfl,rfl,rfl,rfl,rfl,trivial⟩ ?_
  intro i hi;refine w ?_;refine zk ?_ ?_<;>intro hc
  · have m:i<l.length:=by have:=cI hc;omega
    obtain⟨la,rfl⟩:∃x,ao=some x:=by cases ao with|none=>have:=J.gz.nil rfl;omega|some x=>exact⟨x,rfl⟩
    have B:=bf _ (fF m)
    have hr:=B.r;have hm:=B.m
    have eR:ae W (Row N 172 cD::de r X fr (al X.b D::R)) R:=ae.drop (ae.drop (ae.drop (ae.drop ae.refl)))
    refine w ?_
    ((first|apply VO.pure rfl rfl|apply VQ.pure rfl rfl|apply VD.take rfl rfl rfl|(refine VD.end rfl rfl rfl ?_;apply ay.pure));exact .gY ah rfl rfl (J.gz.aR eR) (ke l i m) rfl;rfl)
    refine w ?_
    refine zq ?_;refine ay.aB sb_207 rfl ?_;intro n6
    refine w ?_
    refine zq ?_
    refine ay.gL (vs:=l[i].cells) ah rfl rfl rfl rfl (dI _) zh (by simp) ?_
    refine w ?_
    refine VC.drawn [3,17] 18 [0,1,2,3,4,5,6,7,8,9,10,11,12,13,14,15,16,17,18,19] _ rfl (by kernel_rfl) (by kernel_rfl) ae.re ?_
    refine w ?_
    refine zq ?_;refine zd rfl rfl (xQ r X l[i].av) ?_;intro _ _
    rw[ky (show 0<=l[i].av/\l[i].av<X.m by omega)]
    refine w ?_
    (first|refine VO.gF rfl rfl rfl (gx (by omega)) ?_|refine VD.gF rfl rfl rfl (gx (by omega)) ?_)
    refine w ?_
    refine zq ?_;refine zy rfl rfl (gn hX.m hX.c hX.s) ?_
    intro _ _
    refine w ?_
    refine VC.aK rfl rfl (gx (by omega)) ?_
    refine w ?_
    exact VE.round (i+1) m (by omega) ⟨rfl,rfl,rfl,rfl,rfl,b7 rfl (by congr 1),trivial⟩ ae.re
  clear hc;refine w ?_;refine zq ?_;refine zy rfl rfl (xi (r:=0) (by decide)) ?_;intro b _;refine w ?_
  refine VC.loop (α:=Nat×List aj) (λy=>y.1<=l.length/\y.2.length<=y.1/\(∀p∈y.2,p.Of X)/\(y.2.map aj.place).Nodup/\(((l.take y.1).map aj.place).Nodup->y.2.length=y.1)/\∀k row,cq y.2 k row=cq (l.take y.1).reverse k row) (λy=>dT b 0 y.2::Row N 172 cD::de r X fr (al X.b D::R))
    (λy=>[(0,ip r),(4,ip N),(7,ip b),(51,.slice ao l.length cap),(52,ii l.length),(53,ii y.1)]) (λy=>l.length-y.1) rfl (0,[]) ⟨c7 _,eI _,λp h=>lcs h TW,List.nodup_nil,λ_=>rfl,λk row=>rfl⟩ ae.re ⟨rfl,rfl,rfl,rfl,rfl,rfl,trivial⟩ ?_
  clear hi;rintro⟨i,ps⟩ ⟨hi,an,G,H,O,C⟩;dsimp only at hi an G H O C⊢;refine w ?_;refine zk ?_ ?_<;>intro hc
  · have m:i<l.length:=by have:=cI hc;omega
    obtain⟨la,rfl⟩:∃x,ao=some x:=by cases ao with|none=>have:=J.gz.nil rfl;omega|some x=>exact⟨x,rfl⟩
    have B:=bf _ (fF m)
    have hr:=B.r;have hm:=B.m
    have eR:ae W (dT b 0 ps::Row N 172 cD::de r X fr (al X.b D::R)) R:=ae.drop (ae.drop (ae.drop (ae.drop (ae.drop ae.refl))))
    refine w ?_
    ((first|apply VO.pure rfl rfl|apply VQ.pure rfl rfl|apply VD.take rfl rfl rfl|(refine VD.end rfl rfl rfl ?_;apply ay.pure));exact .gY ah rfl rfl (J.gz.aR eR) (ke l i m) rfl;rfl)
    refine w ?_
    refine zq ?_;refine ay.aB sb_207 rfl ?_;intro n10
    refine w ?_
    refine zq ?_
    refine ay.gL (vs:=l[i].cells) ah rfl rfl rfl rfl (dI _) zh (by simp) ?_
    refine w ?_
    have bm:=xj (W:=W) (R:=Row n10 207 l[i].cells::Row N 172 cD::de r X fr (al X.b D::R)) (b:=b) (r:=0) (ps:=ps) (p:=l[i]) ⟨by omega,by omega,B.n⟩ ((J.each _ (fF m)).aR (ae.drop (ae.drop (ae.drop (ae.drop (ae.drop ae.refl)))))) (by omega)
    refine zq ?_;refine zd rfl rfl (bm) ?_
    intro y _
    refine w ?_
    refine VE.round (i+1,qn ps ⟨l[i].av,l[i].row,⟨y.1,y.2,l[i].d.data⟩⟩) ⟨m,?_,λp ad=>?_,?_,λhn=>?_,λk row=>?_⟩ (by dsimp only;omega) ⟨rfl,rfl,rfl,rfl,rfl,b7 rfl (by congr 1),trivial⟩ ae.re
    · dsimp only
      have:=uy (λx:aj=>decide (x.place≠aj.place ⟨l[i].av,l[i].row,⟨y.1,y.2,l[i].d.data⟩⟩)) ps
      unfold qn
      rw[c9,ie];omega
    · rcases l0.1 ad with h|h
      · exact G p (KO.1 h).1
      · rw[ju.1 h];exact⟨hm,hr,B.n⟩
    · dsimp only
      rw[tA]
      refine List.nodup_append.2 ⟨H.filter _,by simp,λa ha b hb e=>?_⟩
      rw[ju.1 hb]at e
      have:=(KO.1 ha).2
      simp[e]at this
    · dsimp only at hn⊢
      rw[nZ m,jv,List.nodup_append]at hn
      unfold qn
      rw[List.filter_eq_self.2 λx hx=>?_,c9,ie,O hn.1]
      refine ky λe=>?_
      have P:=KC H hx
      rw[C]at P
      obtain⟨p,ad,e1,U,-⟩:=jP P
      exact hn.2.2 _ (List.mem_map_of_mem (f:=aj.place) (HH.1 ad)) _ (.head _) ((show p.place=x.place from Prod.ext e1 U).trans e)
    · dsimp only
      rw[AN,nZ m,AO,C]
  have bb:i=l.length:=by have:=dx hc;omega
  rw[bb,SP]at C O;have bk:ps.length<=l.length:=bb▸an;clear hc;refine w ?_
  refine VC.loop (α:=((aw×Kd)×Nat)×Int×List aj) (λy=>Bq2 y.1.1.1 n y.1.1.2 (c0+(l.length-y.2.2.length))/\y.2.2.length<=l.length/\((∀p∈y.2.2,p∈ps)/\(y.2.2.map aj.place).Nodup/\Did D y.1.1.1 y.1.2/\y.1.2+y.2.2.length<=ps.length/\((∀k row,k<X.m->¬gB fr k row)->y.1.2+y.2.2.length=ps.length))/\fA (λi a=>if a=0\/gB fr i (a-1)\/((i:Int),((a-1:Nat):Int))∈y.2.2.map aj.place then none else cq ps i ((a-1:Nat):Int)) K y.1.1.2) (λy=>dT b y.2.1 y.2.2::Row N 172 cD::de r X fr (al X.b y.1.1.1::R))
    (λy=>[(0,ip r),(4,ip N),(7,ip b)]) (λy=>y.2.2.length) rfl (((D,K),0),0,ps) ⟨hq.mono (by dsimp only;omega),by dsimp only;omega,⟨λp h=>h,H,.refl D,by dsimp only;omega,λ_=>by dsimp only;omega⟩,fA.refl λi a=>?w0⟩ ae.re ⟨rfl,rfl,rfl,trivial⟩ ?_
  case w0=>
    dsimp only;split
    · rfl
    · rename_i h
      cases hw:cq ps i ((a-1:Nat):Int)with
      |none=>rfl
      |some d=>
        obtain⟨p,B,P,h2,-⟩:=jP hw
        exact lcs (.inr (.inr (fG.2 ⟨p,B,Prod.ext P h2⟩))) h
  clear hi an;rintro⟨⟨⟨D',K'⟩,ct⟩,row,E⟩ ⟨I,bE,⟨A,aa,t,au,V⟩,s⟩;dsimp only at I bE A aa t au V s⊢;refine w ?_;refine zq ?_;refine zd rfl rfl (oT (ps:=E) (by omega)) ?_;intro c M;refine VO.bH (λw hw=>bX.bH hw) ?_;intro bw;cases c with
  |none=>
    have h0:E=[]:=M;subst h0;refine w ?_;refine zq ?_;refine ay.aB sb_207 rfl ?_;intro n12;refine w ?_;refine zq ?_;refine ay.gL (vs:=mw) ah rfl rfl rfl rfl (by simp[Value.oneCell']) zh (by simp) ?_;refine w ?_;apply VO.pure rfl rfl;apply af.build sb_172 (pv:=[]) rfl;rfl;rfl;refine zq ?_;refine ay.gL (vs:=cD) ah rfl rfl rfl rfl (by simp[Value.oneCell']) zh (by simp) ?_;refine w ?_;exact VE.results1 (.inl rfl) (⟨D',K',0,0⟩:PlcY) rfl (aL.agg (vs:=cD) ah rfl rfl zm rfl rfl) (.inl ⟨rfl,rfl,I.mono (by simp),s.to λi a=>by unfold sI;simp only[HG,TW,or_false,C],ct,t,RB au bk,λnd up=>(V up).trans (O nd)⟩) rfl ae.re
  |some p=>
    obtain⟨u,-⟩:p∈E/\_:=M;have B:=G _ (A _ u);have hm:=B.m;have hr:=B.r;have Q:=B.n;have S:cq ps p.av p.row=some p.d.data:=KC H (A _ u);have m:=oO u;have L:∀q∈E.filter (λx=>x.place≠p.place),q∈ps:=λq hq=>A q (KO.1 hq).1;have ag:∀z:Pl,z∈(E.filter λx=>x.place≠p.place).map aj.place↔z∈E.map aj.place/\z≠p.place:=λz=>by
      rw[MF,KO];simp
    have ck:=uy (λx:aj=>decide (x.place≠p.place)) E;have T:((E.filter λx=>x.place≠p.place).map aj.place).Nodup:=by rw[MF];exact aa.filter _
    have cb:=filter_one aa u;obtain⟨pm,o,v⟩:=p;dsimp only at hm hr Q S;obtain⟨pm,rfl⟩:=RA hm.1;obtain⟨o,rfl⟩:=RA hr.1;refine w ?_;refine zq ?_;refine ay.aB sb_207 rfl ?_;intro n12;refine w ?_;refine zq ?_;refine ay.gL (vs:=[ii pm,ii o,v.ei]) ah rfl rfl rfl rfl (by simp[Value.oneCell']) zh (by simp) ?_;refine w ?_;refine zq ?_;refine zd rfl rfl (jL r X fr ba pm (by omega) o) ?_;intro _ _;by_cases Y:gB fr pm o
    · rw[ky Y]
      refine w ?_
      refine VE.round (((D',K'),ct),(o:Int),E.filter λx=>x.place≠aj.place ⟨pm,o,v⟩) ⟨I.mono (by dsimp only;omega),by dsimp only;omega,⟨L,T,t,by dsimp only;omega,λup=>lcs Y (up _ _ (by omega))⟩,s.to λi a=>?_⟩ m ⟨rfl,rfl,rfl,trivial⟩ ae.re
      dsimp only
      by_cases e:i=pm/\a-1=o
      · rw[lam (.inr (.inl (by rw[e.1,e.2];exact Y))),lam (.inr (.inl (by rw[e.1,e.2];exact Y)))]
      · have U:((i:Int),((a-1:Nat):Int))≠aj.place ⟨pm,o,v⟩:=λq=>e ⟨by have:=JB Prod.fst q;dsimp only at this;omega,by have:=JB Prod.snd q;dsimp only at this;omega⟩
        simp only[ag,U,ne_eq,not_false_eq_true,and_true]
    · rw[gx Y]
      refine w ?_
      refine VC.drawn [] 11 [0,1,2,3,4,5,6,7,8,9,10,11,12] _ rfl (by kernel_rfl) (by kernel_rfl) ae.re ?_
      refine w ?_
      refine VD.re 87 (ii ((1+o:Nat):Int)) rfl (by congr 1) ?_
      obtain⟨kd,bt,ca⟩:=br pm o (by omega) (by omega) Y
      obtain⟨k',bh,bG⟩:=(s pm).2 kd bt
      obtain⟨en,F,U,bp⟩:∃en:Nat,∃F,D'.write (pm:Int) ((1+o:Nat):Int) v.data=((en:Int),F)/\((en=0/\Bq2 F n (ez K' pm (k'.write (1+o) v.data)) (c0+(l.length-E.length)+1)/\Did D' F 1)\/(en=50/\Bq1 D' 1 F n K' (c0+(l.length-E.length)))):=by
        rcases I.write (a:=1+o) (b:=v.data) bh (by rw[bG.len];omega) Q with⟨F,e,P,h2⟩|⟨F,e,P⟩
        · exact⟨0,F,e,.inl ⟨rfl,P,h2⟩⟩
        · exact⟨50,F,e,.inr ⟨rfl,P⟩⟩
      have bo:=lT (W:=W) (cap:=v.cap) (R:=de r X fr (bX [⟨pm,o,v⟩]::dT b o (E.filter λx=>x.place≠aj.place ⟨pm,o,v⟩)::Row n12 207 [ii pm,ii o,v.ei]::Row N 172 cD::R)) X.b D' pm ((1+o:Nat):Int) (l:=v.data) (ao:=v.ao) (RB (oK I.cap pm) (by omega)) (.inr (aV.cG (res:=aj.res) (l:=[⟨pm,o,v⟩]) (a:=⟨pm,o,v⟩) zm (.head _) (λR hR=>aU.gz (bw _ (.head _)) hR)))
      rw[U]at bo
      refine zq ?_;refine zd rfl rfl (bo) ?_;intro _ _
      rcases bp with⟨rfl,bx,Z⟩|⟨rfl,Z⟩
      rotate_left
      · refine w ?_
        refine zq ?_;refine zy rfl rfl (l8 pm 50) ?_
        intro _ _
        refine w ?_
        refine zq ?_
        refine ay.gL (vs:=trT pm 50) ah rfl rfl rfl rfl (by simp[Value.oneCell']) zh (by simp) ?_
        refine w ?_
        refine VE.results1 (.inl rfl) (⟨F,K',50,pm⟩:PlcY) rfl (aL.agg (vs:=trT pm 50) ah rfl rfl zm rfl rfl) (.inr ⟨rfl,(Z.after t hq.c8.1).mono (by omega) (by omega),_,λi a d e=>?_,s⟩) rfl ae.re
        split at e
        · cases e
        · rename_i g
          unfold sI
          rw[aE λq=>g (q.elim .inl λq=>.inr (.inl q)),<-C];exact e
      refine w ?_
      refine VE.round (((F,ez K' pm (k'.write (1+o) v.data)),ct+1),(o:Int),E.filter λx=>x.place≠aj.place ⟨pm,o,v⟩) ⟨bx.mono (by dsimp only;omega),by dsimp only;omega,⟨L,T,t.trans Z,by dsimp only;omega,λup=>by have:=V up;dsimp only;omega⟩,s.step bh (lam (.inr (.inr (by rw[Nat.add_sub_cancel_left];exact List.mem_map_of_mem (f:=aj.place) u)))) ?_ λj b bs=>?_⟩ m ⟨rfl,rfl,rfl,trivial⟩ ae.re
      · dsimp only
        rw[Nat.add_sub_cancel_left,aE,S]
        rintro(q|q|q)
        · omega
        · exact Y q
        · exact((ag _).1 q).2 rfl
      · dsimp only
        by_cases h0:b=0
        · rw[lam (.inl h0),lam (.inl h0)]
        · have U:((j:Int),((b-1:Nat):Int))≠aj.place ⟨pm,o,v⟩:=λq=>bs ⟨by have:=JB Prod.fst q;dsimp only at this;omega,by have:=JB Prod.snd q;dsimp only at this;omega⟩
          simp only[ag,U,ne_eq,not_false_eq_true,and_true]
theorem PlcOk.calm{D:aw}{n c m:Nat}{K:Kd}{fr:List Int}{l:List aj}{y:PlcY}(h:PlcOk D n K c m fr l y)(q:D.c8=-1):(y.e=0/\y.s=0)/\Bq y.D n y.K c/\fA (sI fr l) K y.K:=by
 rcases h with⟨b,a,d,e,N,f,-⟩|⟨-,h,-⟩
 · exact⟨⟨b,a⟩,d.bq1 (f.calm q),e⟩
 · have:=h.lo;omega
theorem Az{W:World}{R:List ab}{D:aw}{K:Kd}{n c0:Nat}{ao:Option Addr}{cap:Nat}(r:Nat)(X:eA)(i:X.ok)(fr:List Int)(a:fr.length=X.m)(e:∀k row,k<X.m->row<X.s*X.c->¬gB fr k row->∃g,K k=some g/\1+X.s*X.c<=g.last.length)(b:Bq D n K c0)(l:List aj)(f:bq W R ao l)(d:∀p∈l,p.Of X)(j:l.length<=800000)(c:c0<=1000000):
  aq W Tryz.prog 133 [ip r,.slice ao l.length cap] (de r X fr (al X.b D::R)) (β:=aw×Kd) (λy=>Bq y.1 n y.2 (c0+l.length)/\fA (sI fr l) K y.2) (λ_=>.agg cD.toArray) (λy=>de r X fr (al X.b y.1::R)):=
 aq.mono (rplacd_ok r X i fr a e b.bq0 l f d j c) (λy=>(y.D,y.K)) (λy h=>(h.calm b.c8).2) (λy h=>by rw[(h.calm b.c8).1.1,(h.calm b.c8).1.2];rfl) λ_ _=>ae.refl
def fO(fr:List Int)(m:Nat)(K:Kd):Kd:=λi=>if i<m/\¬gB fr i 0 then(K i).map λk=>k.settle λ_=>true else K i
theorem M8{W:World}{R:List ab}{D:aw}{K:Kd}{n c0:Nat}(r:Nat)(X:eA)(m:X.ok)(fr:List Int)(g:fr.length=X.m)(t:∀k,k<X.m->¬gB fr k 0->(K k).isSome=true)(B:Bq D n K c0):
  aq W Tryz.prog 196 [ip r,.func (.func 53) #[] #[]] (de r X fr (al X.b D::R)) (β:=aw) (λD'=>Bq D' n (fO fr X.m K) c0) (λ_=>.agg cD.toArray) (λD'=>de r X fr (al X.b D'::R)):=by
 have C:1*1<=X.s*X.c:=RC m.s.1 m.c.1;have z:=m.m;refine ze Tryz.func196 Tryz.ntmps196 ?_;refine zq ?_;refine ay.aB sb_172 rfl ?_;intro v;refine w ?_
 refine VC.loop (α:=Nat×aw) (λy=>y.1<=X.m/\Bq y.2 n (fO fr y.1 K) c0) (λy=>Row v 172 cD::de r X fr (al X.b y.2::R))
  (λy=>[(0,ip r),(1,.func (.func 53) #[] #[]),(4,ip v),(11,ii X.m),(12,ii y.1)]) (λy=>X.m-y.1) rfl (0,D) ⟨c7 _,by rw[show fO fr 0 K=K from funext λi=>aE λh=>lcs h.1 (Nat.not_lt_zero _)];exact B⟩ ae.re ⟨rfl,rfl,rfl,rfl,rfl,trivial⟩ ?_
 rintro⟨i,D'⟩ ⟨A,a⟩;dsimp only at A a⊢;refine w ?_;refine zk ?_ ?_<;>intro o
 ·
  have b:i<X.m:=by have:=cI o;omega
  refine zr (s:=jL r X fr g i b 0) (h:=?_);intro _ _;by_cases c:gB fr i 0
  ·
   have e:fO fr (i+1) K=fO fr i K:=funext λj=>by
    unfold fO;by_cases q:j=i
    · rw[q,aE λh=>h.2 c,aE λh=>h.2 c]
    ·
     have d:(j<i+1/\¬gB fr j 0)↔(j<i/\¬gB fr j 0):=⟨λh=>⟨by omega,h.2⟩,λh=>⟨by omega,h.2⟩⟩;simp only[d]
   rw[ky c];refine w ?_;exact VE.round (i+1,D') ⟨b,by rw[e];exact a⟩ (by dsimp only;omega) ⟨rfl,rfl,rfl,rfl,b7 rfl (by congr 1),trivial⟩ ae.re
  ·
   rw[gx c];refine w ?_;obtain⟨k,u⟩:=Option.isSome_iff_exists.1 (t i b c);obtain⟨x,d,l⟩:=a.flush (show fO fr i K i=some k by unfold fO;rw[aE λh=>lcs h.1 (Nat.lt_irrefl _),u]);have e:fO fr (i+1) K=ez (fO fr i K) i (k.settle λ_=>true):=funext λj=>by
    unfold ez;split
    · rename_i q;rw[q];unfold fO;rw[lam ⟨Nat.lt_succ_self i,c⟩,u];rfl
    ·
     unfold fO;have d:(j<i+1/\¬gB fr j 0)↔(j<i/\¬gB fr j 0):=⟨λh=>⟨by omega,h.2⟩,λh=>⟨by omega,h.2⟩⟩;simp only[d]
   rw[<-e]at l;have f:=λR=>jY (W:=W) (R:=R) X.b D' (i:Int);rw[d]at f;refine zr (s:=f _) (h:=?_);intro _ _;refine w ?_;exact VE.round (i+1,x) ⟨b,l⟩ (by dsimp only;omega) ⟨rfl,rfl,rfl,rfl,b7 rfl (by congr 1),trivial⟩ ae.re
 have p:i=X.m:=by have:=dx o;omega
 rw[p]at a;clear o;refine w ?_;apply VO.pure rfl rfl;apply af.build sb_172 (pv:=[]) rfl;rfl;rfl;refine zS cD ?_;exact VE.results1 (.inl rfl) D' rfl (aL.agg (vs:=cD) ah rfl rfl zm rfl rfl) a rfl ae.re
theorem uF{W:World}{R:List ab}{D:aw}{K:Kd}{n c0:Nat}(r:Nat)(X:eA)(d:X.ok)(fr:List Int)(a:fr.length=X.m)(b:∀k,k<X.m->¬gB fr k 0->(K k).isSome=true)(e:Bq D n K c0):
  aq W Tryz.prog 134 [ip r] (de r X fr (al X.b D::R)) (β:=aw) (λD'=>Bq D' n (fO fr X.m K) c0) (λ_=>.agg cD.toArray) (λD'=>de r X fr (al X.b D'::R)):=by
 refine ze Tryz.func134 Tryz.ntmps134 ?_;refine zq ?_;refine ay.aB sb_172 rfl ?_;intro f;refine zr (s:=M8 r X d fr a b e) (h:=?_);intro D' c;refine zS cD ?_;exact VE.results1 (.inl rfl) D' rfl (aL.agg (vs:=cD) ah rfl rfl zm rfl rfl) c rfl ae.re
end Go.Proofs.YtldolcbbmnmjoaaGreat
namespace Go.Sl
open Go Go.RowKit Go.MapKept
section
variable{W:World}{P:Program}{n:Nat}{H L:List ab}{f:Fr}{dst:Option Tmp}{ty_:TypeId}{pos:String}{after:Array Edge}{guard:Option (Nat×Bool)}{Q:Exit->Act->World->Prop}{N:List ab->Fr->Prop}{d:Nat}
theorem jB.u8{P:Program}{kt:TypeId}(g:P.underlying kt=some (.int .u8)):jB P kt UInt8 (λc=>ib (c.toNat:Int)) (λ_=>True):=by
 refine⟨λa b h=>?_,λw em k _=>?_,λw k _ es l=>?_,λw k _=>?_⟩
 ·
  injection h with _ h;exact UInt8.toNat_inj.1 zO
 · exact Go.MapKept.run_checkKey (P:=P) (w:=w) (kt:=kt) (k:=ib (k.toNat:Int)) g rfl em 9999
 ·
  rcases findNow_spec (d:= .int .u8) (k:=ib (k.toNat:Int)) rfl es 0 (λe p=>by obtain⟨a,_,i⟩:=l e p;rw[i];rfl)with⟨i,m⟩|⟨j,e,i,m,o⟩
  · exact .inl ⟨Go.MapKept.run_findKey (P:=P) (w:=w) (kt:=kt) g i,m⟩
  · exact .inr ⟨j,e,by rw[Go.MapKept.run_findKey (P:=P) (w:=w) (kt:=kt) g i,PA],m,o⟩
 · simp[Instr.keyThatStays,Instr.sameBits]
theorem af.cm{g:FuncId}{xs:Array Operand}{vs:List Value}(c:jo f xs.toList=some vs):af W P n H f {dst,op:= .makeFunc (.func g) xs #[],type:=ty_,pos,after,guard} (.func (.func g) vs.toArray #[]):=by
 unfold af;intro e w b h;have a:xs.map (Act.eval ⟨e,[]⟩)=vs.toArray:=by
  have:=b.args c;apply Array.ext';simpa using this
 simp[execOp,Instr.makeFunc,a]
theorem ay.gS{x:Operand}{xs:Array Operand}{ats:Array TypeId}{g:FuncId}{bnd cap:Array Value}{vs:List Value}{β:Type}{A:β->Prop}{r:β->Value}{G:β->List ab}
  (u:aD f x=some (.func (.func g) bnd cap))(m:jo f xs.toList=some vs)(o:∀a w,(callFunc g a).run P w= .ok (.enter g a) w)(spec:aq W P g (bnd.toList++vs++cap.toList) L A r G)
  (l:ae W H L)(p:Nat.blt d n=true)(h:∀y,A y->N (G y) ((d,r y)::f)):
  ay W P n {dst:=some d,op:= .call {callee:= .value x,args:=xs,argTypes:=ats},type:=ty_,pos,after,guard} Q H f N:=by
 unfold ay;intro t w c s K k;have b:xs.map (Act.eval ⟨t,[]⟩)=vs.toArray:=by
  have:=c.args m;apply Array.ext';simpa using this
 unfold aq at spec;have q:=spec w (l w s);unfold Oper.wp execOp;simp only[resolve,c.eval u,b,Deferred.ofValue,Go.invoke,Sem.run_bind,Sem.run_pure,Result.andThen_ok,o,Oper.upon];have e:bnd++vs.toArray++cap=(bnd.toList++vs++cap.toList).toArray:=by apply Array.ext';simp
 rw[e];refine Calls.mono q ?_;rintro e v ⟨y,i,rfl,j⟩;exact k _ _ (h y i) _ _ (c.put p) j
end
end Go.Sl
namespace Go.Proofs.YtldolcbbmnmjoaaGreat
open Go.RowKit Go.Sl
attribute [local irreducible] Sl.Own
structure aY where
  b:Nat
  id:Nat
  ev:Nat
  sf:Nat
  role:Int
  m:Nat
  c:Nat
  s:Nat
  ring:Nat
  lazy:Bool
  lost:Bool
  so:Addr
  sc:Nat
  st:List UInt8
  cur:Nat
  r:Option Addr
  w:Option Addr
  ro:Bool
  xn:Bool
  Ik:Bool
abbrev aY.sup(X:aY):ai:=⟨X.id,X.ev,X.sf,X.role,X.m,X.c,X.s,X.ring,X.lazy,X.lost,some X.so,X.sc,X.st,X.cur⟩
abbrev aY.cells(X:aY):List Value:=[ip X.b,i8 X.id,i8 X.ev,i8 X.sf,ii X.role,ii X.m,ii X.c,ii X.s,ii X.ring,.bool X.lazy,.bool X.lost,.slice (some X.so) X.st.length X.sc,ii X.cur,
  .pointer X.r,.pointer X.w,.bool X.ro,i6 0,.bool X.xn,.bool X.Ik]
structure aY.ok(X:aY):Prop where
  m:3<=X.m/\X.m<=16
  c:1<=X.c/\X.c<=16
  s:1<=X.s/\X.s<=256
  st:X.st.length=X.m
  u4:∀x∈X.st,x=1\/x=2\/x=3
  cur:X.cur<=255
abbrev dz(X:aY):ab:=Sl.Own 96 1 (.slice (some X.so) X.st.length X.sc) X.st.length (bytes X.st)
theorem jX{W:World}{R:List ab}(a:Nat)(X:aY):az W Tryz.prog 104 [ip a] (Row a 94 X.cells::R) (ii X.m) (Row a 94 X.cells::R):=by
 refine ze Tryz.func104 Tryz.ntmps104 ?_;exact VE.ax rfl rfl ae.refl
theorem Fh{W:World}{R:List ab}(a:Nat)(X:aY)(b:X.ok):az W Tryz.prog 90 [ip a] (Row a 94 X.cells::R) (ii ((X.s*X.c:Nat):Int)) (Row a 94 X.cells::R):=by
 (refine aq.enter Tryz.func90 Tryz.ntmps90 rfl rfl ?_);refine zt (s:=gn b.m b.c b.s) (h:=?_);intro _ _;refine w ?_;exact VE.ax rfl rfl ae.refl
theorem Fj{W:World}{R:List ab}(v:Value):az W Tryz.prog 91 [v] R (ii ((0:Nat):Int)) R:=by
 refine ze Tryz.func91 Tryz.ntmps91 ?_;exact VE.ax rfl rfl ae.refl
theorem CM{W:World}{R:List ab}(a:Nat)(X:aY)(b:X.ok):az W Tryz.prog 92 [ip a] (Row a 94 X.cells::R) (ii ((X.cur*X.c:Nat):Int)) (Row a 94 X.cells::R):=by
 have h:X.cur*X.c<=255*16:=RC b.cur b.c.2;refine ze Tryz.func92 Tryz.ntmps92 ?_;refine VC.quiet rfl (by kernel_rfl) (by kernel_rfl) ?_;refine w ?_;exact VE.ax rfl rfl ae.refl
theorem dz.gz{W:World}{H:List ab}{X:aY}(m:dz X∈H):aV W H 1 (some X.so) X.st.length (bytes X.st):=aV.own (aQ _) m (by simp) (by simp)
theorem kR{W:World}{R:List ab}(a:Nat)(X:aY)(k:Nat)(b:k<X.st.length):az W Tryz.prog 117 [ip a,ii k] (Row a 94 X.cells::dz X::R) (.bool (decide (X.st[k]≠2))) (Row a 94 X.cells::dz X::R):=by
 have hb1:aV W (Row a 94 X.cells::dz X::R) 1 (some X.so) X.st.length (bytes X.st):=dz.gz zm;refine ze Tryz.func117 Tryz.ntmps117 ?_;exact VE.ax rfl (by congr 1;rw[Bool.eq_iff_iff,bne_iff_ne,decide_eq_true_iff];exact not_congr ⟨λh=>UInt8.toNat_inj.1 (show X.st[k].toNat=2 by omega),λh=>by rw[h];rfl⟩) ae.refl
def nC(X:aY)(x:UInt8):Int:=if x=1 then-1 else if x=2 then 0 else((X.cur*X.c:Nat):Int)
def bU(X:aY):List Int:=X.st.map (nC X)
theorem TZ:jB Tryz.prog 96 UInt8 (λc=>ib (c.toNat:Int)) (λ_=>True):=jB.u8 (by kernel_rfl)
theorem Hv:Tryz.prog.underlying 164=some (.map 96 163):=by kernel_rfl
abbrev TU(g:FuncId):Value:= .func (.func g) #[] #[]
def Jf(x:UInt8):FuncId:=if x=1 then 90 else if x=2 then 91 else 92
def TO(X:aY)(x:UInt8):Nat:=if x=1 then X.s*X.c else if x=2 then 0 else X.cur*X.c
theorem O8(x:UInt8):∀a w,(callFunc (Jf x) a).run Tryz.prog w= .ok (.enter (Jf x) a) w:=by
 unfold Jf;split
 · intro _ _;simp
 ·
  split
  · intro _ _;simp
  · intro _ _;simp
theorem O9{W:World}{R:List ab}(a:Nat)(X:aY)(b:X.ok)(x:UInt8):az W Tryz.prog (Jf x) [ip a] (Row a 94 X.cells::R) (ii (TO X x:Nat)) (Row a 94 X.cells::R):=by
 unfold Jf TO;split
 · exact Fh a X b
 ·
  split
  · exact Fj _
  · exact CM a X b
theorem rH{W:World}{R:List ab}(a r:Nat)(X:aY)(b:X.ok)(Y:eA)(y:X.r=ik r)(D:Y.m=X.m)(fr:List Int)(B:fr.length=X.m):
  az W Tryz.prog 55 [ip a] (Row a 94 X.cells::dz X::de r Y fr R) (.tuple #[]) (Row a 94 X.cells::dz X::de r Y (bU X) R):=by
 refine ze Tryz.func55 Tryz.ntmps55 ?_;refine zq ?_;refine ay.lA (λc:UInt8=>Value.int .u8 (c.toNat:Int)) (λ_=>True) rfl ?_;intro j;refine zw ?_;refine ay.dR (k:=(1:UInt8)) Hv TZ trivial rfl rfl rfl zh ?_;refine zw ?_;refine ay.dR (k:=(2:UInt8)) Hv TZ trivial rfl rfl rfl zh ?_;refine zw ?_;refine ay.dR (k:=(3:UInt8)) Hv TZ trivial rfl rfl rfl zh ?_;refine w ?_;have u:∀x:UInt8,x=1\/x=2\/x=3->getD (iw (iw (iw [] (1:UInt8) (TU 90)) 2 (TU 91)) 3 (TU 92)) x=some (TU (Jf x)):=by
  rintro x (rfl|rfl|rfl)<;>rfl
 generalize iw (iw (iw [] (1:UInt8) _) 2 _) 3 _=l at*;have g:(bU X).length=X.m:=by unfold bU;rw[ew];exact b.st
 have z:=b.st
 refine VC.loop (α:=Nat) (λi=>i<=X.m) (λi=>db (λc:UInt8=>Value.int .u8 (c.toNat:Int)) (λ_=>True) j l::Row a 94 X.cells::dz X::de r Y ((bU X).take i++fr.drop i) R)
  (λi=>[(0,ip a),(2,.map (some j)),(11,.slice (some X.so) X.st.length X.sc),(12,ii X.st.length),(13,ii i)]) (λi=>X.m-i) rfl 0 (c7 _) (by simp only[DK,ou,KP];exact ae.re) ⟨rfl,rfl,rfl,rfl,rfl,trivial⟩ ?_
 intro i C;have v:=b.m;have hb1:aV W (db (λc:UInt8=>Value.int .u8 (c.toNat:Int)) (λ_=>True) j l::Row a 94 X.cells::dz X::de r Y ((bU X).take i++fr.drop i) R) 1 (some X.so) X.st.length (bytes X.st):=dz.gz zm;refine w ?_;refine zk ?_ ?_<;>intro q
 ·
  have p:i<X.st.length:=by have:=cI q;omega
  have t:=b.u4 _ (fF p);refine w ?_;refine zx [11] 12 [0,1,2,3,4,5,6,7,8,9,10,11,12] _ ?_;refine w ?_;refine VD.take rfl rfl rfl (af.jT (k:=X.st[i]) Hv TZ trivial (λw=>by simp;rfl) rfl rfl zm) rfl ?_;rw[u _ t];refine zw ?_;refine ay.call rfl rfl (O8 _) (O9 (R:=db (λc:UInt8=>Value.int .u8 (c.toNat:Int)) (λ_=>True) j l::dz X::de r Y ((bU X).take i++fr.drop i) R) a X b X.st[i]) ae.re rfl ?_;intro _ _;refine⟨ae.re,?_⟩;refine w ?_;refine VD.re 21 (ip r) rfl (by rw[y]) ?_;refine zr (s:=Nk r Y ((bU X).take i++fr.drop i) (by rw[c9,j1,CC,g];omega) i zO _ (TO X X.st[i]:Nat) zO) (h:=?_);intro _ _;refine w ?_;refine VE.round (i+1) zO zO ⟨rfl,rfl,rfl,rfl,b7 rfl (by congr 1),trivial⟩ ?_;have m:i<(bU X).length:=by omega
  have A:(if(((X.st[i].toNat:Nat):Int) != 1)=true then((TO X X.st[i]:Nat):Int)else-1)=(bU X)[i]:=by
   rw[show(bU X)[i]=nC X X.st[i]by simp[bU]];unfold nC TO;rcases t with e|e|e<;>rw[e]<;>rfl
  rw[A,nZ m,lx,KR _ _ (by rw[j1];omega),j1,Nat.min_eq_left zO,E7,vE (show i<fr.length by omega),List.set_cons_zero];exact ae.re
 have o:i=X.m:=by have:=dx q;omega
 subst o;rw[qy zO,List.drop_of_length_le zO,mn];refine w ?_;exact VE.b9 rfl rfl ae.re
def aY.mL(X:aY)(k:Int):ai:={X.sup with role:=k}
theorem CQ{W:World}{R:List ab}{D:aw}{K:Kd}{m:ak}{n c0:Nat}(a:Nat)(X:aY)(o:Bq D n K c0)(t:c0<=900000000)(k:Nat)(u:K k=some m)(v:0<m.last.length)(e:(X.mL k).fit)(c:(X.mL k).enc.1=0)(b:(X.mL k).enc.2.length=128):
  aq W Tryz.prog 52 [ip a,ii k] (Row a 94 X.cells::dz X::al X.b D::R) (β:=aw) (λD'=>Bq D' n (ez K k (m.write 0 (X.mL k).enc.2)) (c0+1)) (λ_=>i6 0) (λD'=>Row a 94 X.cells::dz X::al X.b D'::R):=by
 refine ze Tryz.func52 Tryz.ntmps52 ?_;refine zq ?_;refine ay.aB sb_46 rfl ?_;intro z;refine zl X.sup.cells (cB _) ?_;refine zt (s:=x6 (X.mL k) e (dz.gz (X:=X) zm)) (h:=?_);intro x _;rw[c,b];refine w ?_;have r:b8 x (X.mL k).enc.2=Sl.Own 5 1 (.slice x.1 128 x.2) 128 (bytes (X.mL k).enc.2):=by unfold b8;rw[b]
 rw[r];refine VO.bH (λw y=>y.bn (.head _)) ?_;intro i;obtain⟨p,q,j⟩:=o.write (a:=0) u v b;have g:=lT (W:=W) (cap:=x.2) (R:=Sl.Own 5 1 (.slice x.1 128 x.2) 128 (bytes (X.mL k).enc.2)::Row a 94 X.cells::dz X::R) X.b D k ((0:Nat):Int) (l:=(X.mL k).enc.2) (ao:=x.1) (RB (oK o.cap k) zO) (.inr (by rw[b];exact aV.own (aQ _) zm (by simp[b]) i));rw[q,b]at g;refine zr (s:=g) (h:=?_);intro _ _;refine w ?_;exact VE.done p rfl j rfl ae.re
end Go.Proofs.YtldolcbbmnmjoaaGreat
namespace Go.Proofs.YtldolcbbmnmjoaaGreat
open Go.RowKit Go.Sl
attribute [local irreducible] Sl.Own
structure iS(X:aY)(K:Kd)(n:Nat):Prop where
  ok:X.ok
  n:n=X.m+1
  ev:X.ev<4611686018427387904
  fit:∀k:Nat,k<=X.m->(aY.mL {X with ev:=X.ev+1} k).fit
  enc:∀k:Nat,k<=X.m->(aY.mL {X with ev:=X.ev+1} k).enc.1=0
  len:∀k:Nat,k<=X.m->(aY.mL {X with ev:=X.ev+1} k).enc.2.length=128
  jr:∃kd,K X.m=some kd/\0<kd.last.length
  is:∀i (h:i<X.st.length),X.st[i]≠2->∃kd,K i=some kd/\0<kd.last.length
theorem Sx:cH Tryz.prog 123 122 .nilFunc 1 8:=⟨by kernel_rfl,by kernel_rfl,rfl,by simp[Value.cells,Value.oneCell']⟩
abbrev jz(a:Nat):Value:= .func (.func 52) #[ip a] #[]
abbrev fD(b:Nat):Value:= .func (.func 53) #[ip b] #[]
abbrev aY.next(X:aY):aY:={X with ev:=X.ev+1}
abbrev aY.sure(X:aY):aY:={X with ev:=X.ev+1,sf:=X.ev+1}
abbrev aY.told(X:aY):aY:={X with ev:=X.ev+1,sf:=X.ev+1,xn:=if X.lost=true then false else X.xn}
def kY(b:List UInt8):Nat->ak->ak
  |0,k=>k
  |1,k=>k.write 0 b
  |_,k=>(k.write 0 b).settle λ_=>true
theorem qh(b:List UInt8)(j:Nat)(k:ak):(kY b j k).last.length=k.last.length:=by
 unfold kY;split
 · rfl
 · rfl
 · unfold ak.settle;rw[iJ];rfl
abbrev aY.bytesOf(X:aY)(i:Nat):List UInt8:=(X.mL i).enc.2
def mh(X:aY)(j k:Nat)(K:Kd):Kd:=λi=>if i<X.m/\X.st.getD i 2≠2 then(K i).map (kY (X.bytesOf i) (if i<k then j+1 else j))else K i
theorem Ir(X:aY)(j:Nat)(K:Kd):mh X j X.m K=mh X (j+1) 0 K:=funext λi=>by
 unfold mh;by_cases h:i<X.m/\X.st.getD i 2≠2
 · rw[lam h,lam h,lam h.1,aE (Nat.not_lt_zero i)]
 · rw[aE h,aE h]
theorem Iu(X:aY)(K:Kd):mh X 0 0 K=K:=funext λi=>by
 unfold mh;split
 · rw[aE (Nat.not_lt_zero i)];cases K i<;>rfl
 · rfl
theorem Is(X:aY){j k:Nat}(K:Kd)(h:¬(k<X.m/\X.st.getD k 2≠2)):mh X j (k+1) K=mh X j k K:=funext λi=>by
 unfold mh;by_cases q:i=k
 · subst q;rw[aE h,aE h]
 ·
  by_cases e:i<k
  · rw[lam e,lam (by omega:i<k+1)]
  · rw[aE e,aE (by omega:¬i<k+1)]
theorem It(X:aY){j k:Nat}{K:Kd}{a:ak}(h:k<X.m/\X.st.getD k 2≠2)(b:K k=some a):mh X j k K k=some (kY (X.bytesOf k) j a)/\mh X j (k+1) K=ez (mh X j k K) k (kY (X.bytesOf k) (j+1) a):=by
 refine⟨by unfold mh;rw[lam h,aE (Nat.lt_irrefl k),b];rfl,funext λi=>?_⟩;unfold ez;by_cases q:i=k
 · subst q;rw[lam rfl];unfold mh;rw[lam h,lam (Nat.lt_succ_self i),b];rfl
 ·
  rw[aE q];unfold mh;by_cases e:i<k
  · rw[lam e,lam (by omega:i<k+1)]
  · rw[aE e,aE (by omega:¬i<k+1)]
def jF(X:aY)(K:Kd):Kd:=mh X.next 2 0 λi=>if i=X.m then(K i).map (kY (X.next.bytesOf i) 2)else K i
theorem lS{W:World}{R:List ab}{D:aw}{K:Kd}{n c0:Nat}(a r:Nat)(X:aY)(Y:eA)(J:iS X K n)(an:X.ro=false)(hr:X.r=ik r)(hm:Y.m=X.m)(fr:List Int)(hf:fr.length=X.m)(hq:Bq D n K c0)(bh:c0<=1000000):
  aq W Tryz.prog 118 [ip a] (Row a 94 X.cells::dz X::de r Y fr (al X.b D::R)) (β:=aw) (λD'=>Bq D' n (jF X K) (c0+40)) (λ_=>.tuple #[]) (λD'=>Row a 94 X.told.cells::dz X::de r Y (bU X) (al X.b D'::R)):=by
 have L:=J.ok;have bk:=J.ev;have bf:=L.m;have bm:=L.st;refine ze Tryz.func118 Tryz.ntmps118 ?_;rw[an];refine w ?_;refine VC.aK rfl rfl (gx zO) ?_;refine w ?_;have e1:X.cells.set (0+1+1) (i8 (IntKind.u64.wrap ((X.ev:Int)+1)))=X.next.cells:=by
  rw[show((X.ev:Int)+1)=((X.ev+1:Nat):Int)by omega,dB zO];rfl
 rw[e1,an];have hn:=J.n
 have F:∀(R:List ab)(D':aw)(o:Kd)(c:Nat)(d:ak),Bq D' n o c->c<=900000000->∀k:Nat,k<=X.m->o k=some d->0<d.last.length->aq W Tryz.prog 52 [ip a,ii k] (Row a 94 X.next.cells::dz X::al X.b D'::R) (β:=aw) (λm=>Bq m n (ez o k (d.write 0 (X.next.bytesOf k))) (c+1)) (λ_=>i6 0) (λm=>Row a 94 X.next.cells::dz X::al X.b m::R):=
  λR D' o c d b l k G p hs=>CQ a X.next b l k p hs (J.fit k G) (J.enc k G) (J.len k G)
 have A:∀(R:List ab)(D':aw)(o:Kd)(c:Nat)(d:ak),Bq D' n o c->∀k:Nat,o k=some d->aq W Tryz.prog 53 [ip X.b,ii k] (al X.b D'::R) (β:=aw) (λm=>Bq m n (ez o k (d.settle λ_=>true)) c) (λ_=>i6 0) (λm=>al X.b m::R):=λR D' o c d b k G=>by
  have h:=jY (W:=W) (R:=R) X.b D' (k:Int);obtain⟨m,U,v⟩:=b.flush G;rw[U]at h;exact aq.mono h (λ_=>m) (λ_ _=>v) (λ_ _=>rfl) (λ_ _=>ae.refl)
 have N:∀u∈[jz a,fD X.b],u.oneCell'=true:=by simp[Value.oneCell']
 have V:∀i,i<2->∃g bnd,[jz a,fD X.b][i]?=some (.func (.func g) bnd #[])/\(∀a w,(callFunc g a).run Tryz.prog w= .ok (.enter g a) w)/\
   ∀(R:List ab)(D':aw)(o:Kd)(c:Nat)(d:ak),Bq D' n o c->c<=900000000->∀k:Nat,k<=X.m->o k=some (kY (X.next.bytesOf k) i d)->0<d.last.length->aq W Tryz.prog g (bnd.toList++[ii k]++[]) (Row a 94 X.next.cells::dz X::al X.b D'::R) (β:=aw) (λm=>Bq m n (ez o k (kY (X.next.bytesOf k) (i+1) d)) (c+1)) (λ_=>i6 0) (λm=>Row a 94 X.next.cells::dz X::al X.b m::R):=λi hi=>by
  rcases(show i=0\/i=1 by omega)with rfl|rfl
  · exact⟨_,_,rfl,λ_ _=>by simp,λR D' o c d b l k G p hs=>F R D' o c d b l k G p hs⟩
  · exact⟨_,_,rfl,λ_ _=>by simp,λR D' o c d b l k G p hs=>fX ae.re (aq.mono (A (Row a 94 X.next.cells::dz X::R) D' o c _ b k p) (λy=>y) (λ_ h=>h.mono (Nat.le_succ c)) (λ_ _=>rfl) (λ_ _=>ae.re))⟩
 clear F A;obtain⟨S,aa,ad⟩:=J.jr;refine w ?_;refine VO.pure rfl rfl (af.cm rfl) rfl ?_;refine w ?_;refine VO.pure rfl rfl (af.cm rfl) rfl ?_;refine w ?_;refine zq ?_;refine ay.bP Sx rfl rfl (by simp[Value.oneCell']) (by decide) rfl ?_;intro nb;refine w ?_
 refine VC.loop (α:=Nat×aw) (λy=>y.1<=2/\Bq y.2 n (ez K X.m (kY (X.next.bytesOf X.m) y.1 S)) (c0+y.1)) (λy=>Row nb 122 [jz a,fD X.b]::Row a 94 X.next.cells::dz X::de r Y fr (al X.b y.2::R))
  (λy=>[(0,ip a),(51,.slice (ik nb) 2 2),(52,ii 2),(53,ii y.1)]) (λy=>2-y.1) rfl (0,D) ⟨c7 _,by show Bq D n (ez K X.m S) c0;rw[pz aa];exact hq⟩ ae.re ⟨rfl,rfl,rfl,rfl,trivial⟩ ?_
 rintro⟨i,D'⟩ ⟨hi,b⟩;dsimp only at hi b⊢;have hr1:aV W (Row nb 122 [jz a,fD X.b]::Row a 94 X.next.cells::dz X::de r Y fr (al X.b D'::R)) 1 (ik nb) 2 [jz a,fD X.b]:=aV.row N (.head _) rfl;refine w ?_;refine zk ?_ ?_<;>intro l
 ·
  have t:i<2:=by have:=cI l;omega
  clear l;obtain⟨g,bnd,hg,P,z⟩:=V i t;have hv:[jz a,fD X.b][i]'(by simpa using t)= .func (.func g) bnd #[]:=HF ((fL _).symm.trans hg);refine w ?_;rw[hv];refine zr (s:=jX a X.next) (h:=?_);intro _ _;refine zw ?_;refine ay.gS rfl rfl P (z _ D' _ _ S b zO X.m (eI _) (eZ _ _ _) ad) ae.re rfl ?_;intro m v;rw[show ez (ez K X.m (kY (X.next.bytesOf X.m) i S)) X.m (kY (X.next.bytesOf X.m) (i+1) S)=ez K X.m (kY (X.next.bytesOf X.m) (i+1) S)from funext λj=>by unfold ez;split<;>rfl]at v;refine w ?_;exact VE.round (i+1,m) ⟨t,v⟩ (by dsimp only;omega) ⟨rfl,rfl,rfl,b7 rfl (by congr 1),trivial⟩ ae.re
 have av:i=2:=by have:=dx l;omega
 subst av;obtain⟨B,O⟩:∃B:Kd,B=λi=>if i=X.m then(K i).map (kY (X.next.bytesOf i) 2)else K i:=⟨_,rfl⟩;rw[show ez K X.m (kY (X.next.bytesOf X.m) 2 S)=B from O▸funext λj=>by
  unfold ez;by_cases q:j=X.m
  · rw[lam q,lam q,q,aa];rfl
  · rw[aE q,aE q]]at b
 have au:∀i (h:i<X.st.length),X.st[i]≠2->∃d,B i=some d/\0<d.last.length:=λi h H=>by
  obtain⟨d,e,q⟩:=J.is i h H;exact⟨d,by rw[O];dsimp only;rw[aE zO];exact e,q⟩
 clear l;refine w ?_;refine VO.pure rfl rfl (af.cm rfl) rfl ?_;refine w ?_;refine VO.pure rfl rfl (af.cm rfl) rfl ?_;refine w ?_;refine VO.aR (H':=Row a 94 X.next.cells::dz X::de r Y fr (al X.b D'::R)) ae.re ?_;refine zq ?_;refine ay.bP Sx rfl rfl (by simp[Value.oneCell']) (by decide) rfl ?_;intro T;refine w ?_
 refine VC.loop (α:=Nat×aw) (λy=>y.1<=2/\Bq y.2 n (mh X.next y.1 0 B) (c0+2+y.1*16)) (λy=>Row T 122 [jz a,fD X.b]::Row a 94 X.next.cells::dz X::de r Y fr (al X.b y.2::R))
  (λy=>[(0,ip a),(77,.slice (ik T) 2 2),(78,ii 2),(79,ii y.1)]) (λy=>2-y.1) rfl (0,D') ⟨c7 _,by rw[Iu];exact b.mono zO⟩ ae.re ⟨rfl,rfl,rfl,rfl,trivial⟩ ?_
 clear hi b hr1;rintro⟨j,E⟩ ⟨hj,f⟩;dsimp only at hj f⊢;have hr1:aV W (Row T 122 [jz a,fD X.b]::Row a 94 X.next.cells::dz X::de r Y fr (al X.b E::R)) 1 (ik T) 2 [jz a,fD X.b]:=aV.row N (.head _) rfl;refine w ?_;refine zk ?_ ?_<;>intro l
 ·
  have t:j<2:=by have:=cI l;omega
  clear l;obtain⟨g,bnd,hg,P,z⟩:=V j t;have hv:[jz a,fD X.b][j]'(by simpa using t)= .func (.func g) bnd #[]:=HF ((fL _).symm.trans hg);refine w ?_;rw[hv];refine w ?_
  refine VC.loop (α:=Nat×aw) (λy=>y.1<=X.m/\Bq y.2 n (mh X.next j y.1 B) (c0+2+j*16+y.1)) (λy=>Row T 122 [jz a,fD X.b]::Row a 94 X.next.cells::dz X::de r Y fr (al X.b y.2::R))
   (λy=>[(0,ip a),(6,.func (.func g) bnd #[]),(77,.slice (ik T) 2 2),(78,ii 2),(79,ii j),(88,ii X.m),(89,ii y.1)]) (λy=>X.m-y.1) rfl (0,E) ⟨c7 _,f⟩ ae.re ⟨rfl,rfl,rfl,rfl,rfl,rfl,rfl,trivial⟩ ?_
  clear f hr1;rintro⟨k,E⟩ ⟨G,f⟩;dsimp only at G f⊢;refine w ?_;refine zk ?_ ?_<;>intro l
  ·
   have Q:k<X.m:=by have:=cI l;omega
   clear l;have I:k<X.st.length:=by omega
   refine zr (s:=kR a X.next k I) (h:=?_);intro _ _;by_cases H:X.st[k]≠2
   ·
    rw[ky (show X.next.st[k]≠2 from H)];refine zw ?_;obtain⟨d,p,ba⟩:=au k I H;obtain⟨f1,f2⟩:=It X.next (j:=j) (K:=B) ⟨Q,by show X.st.getD k 2≠2;rw[List.getD_eq_getElem?_getD,fL I];exact H⟩ p;refine ay.gS rfl rfl P (z _ E _ _ d f zO k zO f1 ba) ae.re rfl ?_;intro m v;rw[<-f2]at v;refine w ?_;exact VE.round (k+1,m) ⟨Q,v⟩ (by dsimp only;omega) ⟨rfl,rfl,rfl,rfl,rfl,rfl,b7 rfl (by congr 1),trivial⟩ ae.re
   ·
    rw[gx (show ¬X.next.st[k]≠2 from H)];refine w ?_;exact VE.round (k+1,E) ⟨Q,by dsimp only;rw[Is X.next B λh=>h.2 (by show X.st.getD k 2=2;rw[List.getD_eq_getElem?_getD,fL I];exact Decidable.of_not_not H)];exact f.mono zO⟩ (by dsimp only;omega) ⟨rfl,rfl,rfl,rfl,rfl,rfl,b7 rfl (by congr 1),trivial⟩ ae.re
  have bb:k=X.m:=by have:=dx l;omega
  subst bb;rw[show mh X.next j X.m B=mh X.next (j+1) 0 B from Ir X.next j B]at f;clear l;refine w ?_;exact VE.round (j+1,E) ⟨t,f.mono (by dsimp only;omega)⟩ (by dsimp only;omega) ⟨rfl,rfl,rfl,b7 rfl (by congr 1),trivial⟩ ae.re
 obtain rfl:j=2:=by have:=dx l;omega
 clear l;refine w ?_;have U:X.next.cells.set (0+1+2) (i8 X.next.ev)=X.sure.cells:=rfl;rw[U];have C:∀(R:List ab)(Z:aY),Z.st=X.st->Z.so=X.so->Z.sc=X.sc->Z.m=X.m->Z.c=X.c->Z.s=X.s->Z.cur=X.cur->Z.r=X.r->az W Tryz.prog 55 [ip a] (Row a 94 Z.cells::dz X::de r Y fr R) (.tuple #[]) (Row a 94 Z.cells::dz X::de r Y (bU X) R):=λR Z h1 H h3 h4 h5 h6 h7 h8=>by
  have h:=rH (W:=W) (R:=R) a r Z ⟨h4▸L.m,h5▸L.c,h6▸L.s,by rw[h1,h4];exact L.st,by rw[h1];exact L.u4,by rw[h7];exact L.cur⟩ Y (h8.trans hr) (hm.trans h4.symm) fr (hf.trans h4.symm);have e1:dz Z=dz X:=by unfold dz;rw[h1,H,h3]
  have U:bU Z=bU X:=by unfold bU;rw[h1];apply Mx;intro x _;unfold nC;rw[h7,h5]
  rw[e1,U]at h;exact h
 have M:Bq E n (jF X K) (c0+40):=by unfold jF;rw[<-O];exact f.mono zO
 cases ag:X.lost
 ·
  refine w ?_;have e3:X.sure=X.told:=by simp only[aY.told,aY.sure,ag,Bool.false_eq_true,if_false]
  rw[e3];refine zr (s:=C _ X.told rfl rfl rfl rfl rfl rfl rfl rfl) (h:=?_);intro _ _;refine w ?_;exact VE.qv E rfl M rfl ae.re
 ·
  refine w ?_;have e3:X.sure.cells.set (0+17) (.bool false)=X.told.cells:=by simp[aY.told,aY.sure,aY.cells,ag]
  rw[e3];refine zr (s:=C _ X.told rfl rfl rfl rfl rfl rfl rfl rfl) (h:=?_);intro _ _;refine w ?_;exact VE.qv E rfl M rfl ae.re
end Go.Proofs.YtldolcbbmnmjoaaGreat
