import Derived.Test.YtonpidcjpenflaaGreatM9
import Derived.Laws.Cover3
set_option maxRecDepth 8000
set_option maxHeartbeats 16000000
set_option linter.unusedVariables false
set_option linter.unusedSimpArgs false
set_option linter.unusedSectionVars false
set_option linter.defProp false
namespace Go.Sl
open Go Go.RowKit Go.MapKept
section
variable{W:World}{P:Program}{n:Nat}{H:List ab}{f:Fr}{dst:Option Tmp}{ty_:TypeId}{pos:String}{after:Array Edge}{guard:Option (Nat×Bool)}
theorem af.RJ{t kt a u:TypeId}{x:Operand}{o:Option Nat}(c:P.underlying t=some (.map kt a))(d:aD f x=some (.map o)):
  af W P n H f {dst,op:= .binOp .eql t x (.const (.map none)) u,type:=ty_,pos,after,guard} (.bool o.isNone):=by
 unfold af;intro e w b _;exact oM b d rfl rfl (by rintro o (rfl|rfl)<;>cases x<;>rfl) rfl rfl (run_equal_map_nil w t kt a o c)
end
end Go.Sl
namespace Go.Proofs.YtonpidcjpenflaaGreat
open Go.RowKit Go.Sl
attribute [local irreducible] Sl.Own
abbrev rY:Tryz.prog.underlying 339=some (.map 3 340):=by kernel_rfl
abbrev BT:Tryz.prog.underlying 340=some (.map 3 208):=by kernel_rfl
abbrev wV:jB Tryz.prog 3 Int cz eK:=jB.i64 (by kernel_rfl)
theorem rX{k:Nat}(h:k<=1000000):eK (k:Int):=by unfold eK;simp[Lit.wf,IntKind.min,IntKind.max,IntKind.signed,IntKind.bits];omega
abbrev oB(b:Nat)(S:List dP)(G:List aU)(R:List ab):List ab:=db cz eK b (S.map dP.top)::cG dP.res S::cP G::R
def kD(m c:Nat)(l:List cQ):List (Int×List (Int×List UInt8)):=l.foldl (λP p=>sy P (cJ m c p.dV).row (cJ m c p.dV).av p.d.data) []
theorem jN(m c:Nat)(l:List cQ)(p:cQ):kD m c (l++[p])=sy (kD m c l) (cJ m c p.dV).row (cJ m c p.dV).av p.d.data:=by
 unfold kD;rw[List.foldl_append];rfl
theorem Al{W w:World}{H:List ab}{b:Nat}{D:List (Int×Value)}(a:Sl.Holds W H w)(m:db cz eK b D∈H):∀x∈D,eK x.1:=by
 obtain⟨es,cl,h,_⟩:=a.RI m;exact h.aX
abbrev cu.own(q:cu):ab:=bL (q.ao,q.cap) q.aA
abbrev Ff(h:Nat)(S:List dP)(b:Nat)(kv:List (Int×Value))(d:List dP)(G:List aU)(out:List cu)(c:Option Addr×Nat)(e:Addr)(g:Nat)(a:List Int)(R:List ab):List ab:=db cz eK b kv::cG dP.res d::Sl.Own 140 1 (.slice c.1 out.length c.2) out.length (out.map cu.ei)::cG cu.own out::Sl.Own 3 1 (.slice (some e) a.length g) a.length (a.map cz)::db cz eK h (S.map dP.top)::cP G::R
def kh(S:List dP)(r:Int):List (Int×aj):=(fj (S.map λs=>(s.row,s.es)) r).getD []
abbrev TX:aj:=⟨0,0,⟨none,0,[]⟩⟩
def gH(S:List dP)(r:Int):List aj:=(ey ((kh S r).map (·.1))).map λk=>(fj (kh S r) k).getD TX
structure CJ where
  x:Option Addr×Nat
  out:List cu
  S:List dP
  G:List aU
structure fJ(m c:Nat)(l:List cQ)(y:CJ):Prop where
  ok:ni y.S y.G (kD m c l)
  mx:y.S.length<=l.length
  each:∀s∈y.S,s.es.length<=l.length
  out:y.out.map (·.aA)=(ey (y.S.map (·.row))).map (gH y.S)
theorem EI{W:World}{R:List ab}{m c s:Nat}(hm:3<=m/\m<=16)(I:1<=c/\c<=16)(U:1<=s/\s<=256){ao:Option Addr}{cap:Nat}{l:List cQ}(hl:l.length<=256)(hp:iT W R ao l)(hb:∀p∈l,p.dV<s*c* (m-1)):
  aq W Tryz.prog 166 [.agg (cv m c s).toArray,.slice ao l.length cap] R (β:=CJ) (fJ m c l) (λy=>.tuple #[.slice y.x.1 y.out.length y.x.2,i6 0]) (λy=>Sl.Own 140 1 (.slice y.x.1 y.out.length y.x.2) y.out.length (y.out.map cu.ei)::cG cu.own y.out::cP y.G::R):=by
 have h4:s*c<=256*16:=mo U.2 I.2;refine ze Tryz.func166 Tryz.ntmps166 ?_;refine zj λ_=>?_;refine w ?_;rename_i N;refine zt (s:=jH ⟨m,c,s⟩) (h:=?_);intro _ _;rw[lam ⟨⟨by dsimp only;omega,by dsimp only;omega⟩,⟨by dsimp only;omega,by dsimp only;omega⟩,by dsimp only;omega,by dsimp only;omega⟩];refine w ?_;refine VC.aK rfl rfl (gx zO) ?_;refine zw ?_;refine ay.lA cz eK rfl ?_;intro r;refine w ?_;refine VC.aR (H':=oB r [] [] (Row N 36 (cv m c s)::R)) (ae.trans (λw C=>di (res:=dP.res) (di (res:=aU.res) C)) ae.re) ?_
 refine VC.loop (α:=Nat×List dP×List aU) (λy=>y.1<=l.length/\ni y.2.1 y.2.2 (kD m c (l.take y.1))/\y.2.1.length<=y.1/\∀s∈y.2.1,s.es.length<=y.1) (λy=>oB r y.2.1 y.2.2 (Row N 36 (cv m c s)::R))
  (λy=>[(1,.slice ao l.length cap),(2,ip N),(7,.map (some r)),(8,.bool true),(28,.slice ao l.length cap),(29,ii l.length),(30,ii y.1)]) (λy=>l.length-y.1) rfl (0,[],[]) ⟨c7 _,⟨λs h=>(by cases h),List.nodup_nil,rfl⟩,eI _,λs h=>(by cases h)⟩ ae.refl ⟨rfl,rfl,rfl,rfl,rfl,rfl,rfl,trivial⟩ ?_
 ·
  rintro⟨i,S,G⟩ ⟨hi,V,bG,au⟩;dsimp only at hi V bG au⊢;refine w ?_;refine zk ?_ ?_<;>intro I
  ·
   have A:i<l.length:=by have:=cI I;omega
   clear I;obtain⟨la,rfl⟩:∃x,ao=some x:=by cases ao with|none=>have:=hp.gz.nil rfl;omega|some x=>exact⟨x,rfl⟩
   have ch:=hb _ (fF A);have bo:=hp.n128 _ (fF A);have eR:ae W (oB r S G (Row N 36 (cv m c s)::R)) R:=ae.drop (ae.drop (ae.drop (ae.drop ae.refl)));refine w ?_;refine VO.pure rfl rfl (.gY ah rfl rfl (hp.gz.aR eR) (R6 l i A) rfl) rfl ?_;refine zw ?_;refine ay.aB Nr rfl ?_;intro n10;refine zS (l[i].cells) ?_;refine VO.re 35 (.agg (cv m c s).toArray) rfl rfl ?_;refine zt (s:=zX hm I U ch) (h:=?_);rintro⟨st,row,v,pa⟩ ⟨⟨g1,g2⟩,g0⟩;dsimp only at g1 g2⊢;refine zw ?_;refine ay.aB Cb rfl ?_;intro n11;refine zS ([ii st,ii row,ii v,ii pa]) ?_;refine VO.re 8 (.bool true) rfl (by rw[bo];rfl) ?_;obtain⟨o,ho,bb⟩:∃o:Option Nat,(getD (S.map dP.top) (row:Int)).getD (.map none)= .map o/\((o=none/\∀s∈S,s.row≠(row:Int))\/∃i0,∃h:i0<S.length,S[i0].row=(row:Int)/\o=some S[i0].dV):=by
    by_cases br:∃i0,∃h:i0<S.length,S[i0].row=(row:Int)
    ·
     obtain⟨i0,D,t⟩:=br;exact⟨_,by rw[top_get V D t];rfl,.inr ⟨i0,D,t,rfl⟩⟩
    ·
     have Y:∀s∈S,s.row≠(row:Int):=λs U e=>by
      obtain⟨j,hj,rfl⟩:=List.mem_iff_getElem.1 U;exact br ⟨j,hj,e⟩
     exact⟨none,by rw[top_none Y];rfl,.inl ⟨rfl,Y⟩⟩
   refine VO.pure rfl rfl (af.jT (k:=(row:Int)) rY wV (rX zO) (λw=>by simp;rfl) rfl rfl zm) rfl ?_;rw[ho];refine w ?_;refine VO.pure rfl rfl (af.RJ BT rfl) rfl ?_;refine w ?_;refine VC.join (α:=List dP×Nat) (λy=>ni y.1 G (gK (kD m c (l.take i)) row)/\y.1.length<=i+1/\(∀s∈y.1,s.es.length<=i)/\∃h:y.2<y.1.length,y.1[y.2].row=(row:Int)) (λy=>Row n11 249 [ii st,ii row,ii v,ii pa]::Row n10 68 l[i].cells::oB r y.1 G (Row N 36 (cv m c s)::R)) (λ_=>[(1,.slice (some la) l.length cap),(2,ip N),(7,.map (some r)),(8,.bool true),(10,ip n10),(11,ip n11),(28,.slice (some la) l.length cap),(29,ii l.length),(30,ii i)]) ?_ ?_
   ·
    intro Q2 jn;rcases bb with⟨rfl,Y⟩|⟨i0,D,t,rfl⟩
    ·
     refine zw ?_;refine ay.lA cz eK rfl ?_;intro nb;refine zw ?_;refine ay.qZ (k:=(row:Int)) rY wV (rX zO) rfl rfl rfl zh ?_;refine w ?_;refine jn.to (S++[dP.mk row nb []],S.length) ⟨V.MQ Y nb,by rw[c9,ie];omega,λs U=>?_,by rw[c9,ie];omega,by simp⟩ ⟨rfl,rfl,rfl,rfl,rfl,rfl,rfl,rfl,rfl,trivial⟩ ?_
     ·
      rcases l0.1 U with q|q
      · exact au s q
      · rw[ju.1 q];exact c7 _
     ·
      dsimp only;rw[show iw (S.map dP.top) (row:Int) (Value.map (some nb))=(S++[dP.mk row nb []]).map dP.top by
       rw[jv];unfold iw;rw[List.filter_eq_self.2 λx hx=>by obtain⟨s,U,rfl⟩:=fG.1 hx;simpa using Y s U];rfl]
      exact λw C=>(ae.re:ae W (cG dP.res (S++[dP.mk row nb []])::_) _) w (du (res:=dP.res) (a:=dP.mk row nb []) ((ae.re:ae W _ (dP.res (dP.mk row nb [])::cG dP.res S::Row n11 249 [ii st,ii row,ii v,ii pa]::Row n10 68 l[i].cells::db cz eK r ((S++[dP.mk row nb []]).map dP.top)::cP G::Row N 36 (cv m c s)::R)) w C))
    ·
     refine w ?_;exact jn.to (S,i0) ⟨V.MR D t,by dsimp only;omega,au,D,t⟩ ⟨rfl,rfl,rfl,rfl,rfl,rfl,rfl,rfl,rfl,trivial⟩ ae.re
   rintro⟨F,i0⟩ ⟨ad,bx,bk,D,t⟩;dsimp only at ad bx bk D t⊢;refine VC.aR (H':=db cz eK F[i0].dV F[i0].kv::cG dP.res (F.eraseIdx i0)::Row n11 249 [ii st,ii row,ii v,ii pa]::Row n10 68 l[i].cells::db cz eK r (F.map dP.top)::cP G::Row N 36 (cv m c s)::R) (λw C=>j4 D ((ae.re:ae W _ (cG dP.res F::Row n11 249 [ii st,ii row,ii v,ii pa]::Row n10 68 l[i].cells::db cz eK r (F.map dP.top)::cP G::Row N 36 (cv m c s)::R)) w C)) ?_;refine zx [12] 14 [0,1,2,3,4,5,6,7,8,9,10,11,12,13,14] _ ?_;refine w ?_;refine VD.take rfl rfl rfl (af.jT (k:=(row:Int)) rY wV (rX zO) (λw=>by simp;rfl) rfl rfl zm) rfl ?_;rw[top_get ad D t];refine zt (s:=gg ((hp.each _ (fF A)).aR (ae.drop (ae.drop (ae.drop (ae.drop (ae.drop (ae.drop (ae.drop ae.refl)))))))) zO) (h:=?_);intro x _;refine w ?_;refine VD.take rfl rfl rfl (af.build eY rfl (show aC _ _ _=some (aj.mk v row (aU.mk x.1 x.2 l[i].d.data)).cells by simp[aC,bR,Value.cells])) rfl ?_;refine zw ?_;refine ay.qZ (k:=(v:Int)) BT wV (rX zO) rfl rfl rfl zh ?_;refine w ?_;have ea:kD m c (l.take (i+1))=tV (gK (kD m c (l.take i)) row) row v l[i].d.data:=by
    rw[nZ A,jN,<-g0];rfl
   have cY:iw F[i0].kv (v:Int) (PQ (aj.mk v row (aU.mk x.1 x.2 l[i].d.data)))=(dP.put row v (aj.mk v row (aU.mk x.1 x.2 l[i].d.data)) F[i0]).kv:=by
    unfold dP.put;rw[lam t];exact(Ei PQ F[i0].es v (aj.mk v row (aU.mk x.1 x.2 l[i].d.data))).symm
   refine VE.round (i+1,F.map (dP.put row v (aj.mk v row (aU.mk x.1 x.2 l[i].d.data))),G++[aU.mk x.1 x.2 l[i].d.data]) ⟨A,?_,?_,?_⟩ (by dsimp only;omega) ⟨rfl,rfl,rfl,rfl,rfl,rfl,b7 rfl (by congr 1),trivial⟩ ?_
   ·
    dsimp only;rw[ea];exact ad.put (aj.mk v row (aU.mk x.1 x.2 l[i].d.data)) rfl rfl λs U=>by have:=bk s U;omega
   · dsimp only;rw[ew];exact bx
   ·
    dsimp only;intro s U;obtain⟨s,cc,rfl⟩:=fG.1 U;have:=bk s cc;unfold dP.put;split
    ·
     show(List.filter _ _++[_]).length<=i+1;rw[c9];have:=HH (λx:Int×aj=>decide (x.1≠(v:Int))) s.es;simp only[ie];omega
    · omega
   ·
    dsimp only;unfold oB;rw[cY,ni.top_put,show db cz eK F[i0].dV (dP.put row v (aj.mk v row (aU.mk x.1 x.2 l[i].d.data)) F[i0]).kv=dP.res (dP.put row v (aj.mk v row (aU.mk x.1 x.2 l[i].d.data)) F[i0])by unfold dP.res;rw[(BZ _ _ _ _).2]];have bm:=ad.rest (k:=(v:Int)) D t (aj.mk v row (aU.mk x.1 x.2 l[i].d.data));generalize F.map (dP.put row v (aj.mk v row (aU.mk x.1 x.2 l[i].d.data)))=S2 at*;generalize dP.put row v (aj.mk v row (aU.mk x.1 x.2 l[i].d.data)) F[i0]=s2 at*;exact λw C=>(ae.re:ae W (cP (G++[aU.mk x.1 x.2 l[i].d.data])::cG dP.res S2::db cz eK r (F.map dP.top)::Row N 36 (cv m c s)::R) _) w (du (res:=aU.res) (a:=aU.mk x.1 x.2 l[i].d.data) ((ae.re:ae W (cG dP.res S2::aU.res (aU.mk x.1 x.2 l[i].d.data)::cP G::db cz eK r (F.map dP.top)::Row N 36 (cv m c s)::R) _) w (p9 (res:=dP.res) bm (pZ (res:=dP.res) ((ae.re:ae W _ (s2.res::cG dP.res (F.eraseIdx i0)::aU.res (aU.mk x.1 x.2 l[i].d.data)::cP G::db cz eK r (F.map dP.top)::Row N 36 (cv m c s)::R)) w C)))))
  have cw:i=l.length:=by have:=dx I;omega
  clear I;subst cw;rw[DK]at V;refine w ?_;have bh:(S.map dP.top).length<=1000000:=by rw[ew];omega
  refine zr (s:=Py (H:=oB r S G (Row N 36 (cv m c s)::R)) (some r)) (h:=?_);intro ck _;refine zr (s:=Km (H:=Row ck 339 [.map (some r)]::oB r S G (Row N 36 (cv m c s)::R)) zm (.head _) bh) (h:=?_);rintro⟨E,K⟩ _;refine w ?_;obtain⟨b,aa⟩:∃b,ey (S.map (·.row))=b:=⟨_,rfl⟩;have bp:b.length=S.length:=by rw[<-aa,ey,List.length_mergeSort,ew]
  rw[show(S.map dP.top).map (·.1)=S.map (·.row)by rw[oS];rfl,aa,ew,<-bp];refine VC.aR (H':=Sl.Own 140 1 (.slice none 0 0) 0 []::cG cu.own []::Sl.Own 3 1 (.slice E b.length K) b.length (b.map cz)::oB r S G R) (ae.trans (ae.re (L:=Sl.Own 3 1 (.slice E b.length K) b.length (b.map cz)::oB r S G R)) (λw C=>(di (res:=cu.own) C).aZ 140 1)) ?_
  refine VC.loop (α:=Nat×List cu×(Option Addr×Nat)) (λy=>y.1<=b.length/\y.2.1.map (·.aA)=(b.take y.1).map (gH S)) (λy=>Sl.Own 140 1 (.slice y.2.2.1 y.2.1.length y.2.2.2) y.2.1.length (y.2.1.map cu.ei)::cG cu.own y.2.1::Sl.Own 3 1 (.slice E b.length K) b.length (b.map cz)::oB r S G R)
   (λy=>[(7,.map (some r)),(13,.slice y.2.2.1 y.2.1.length y.2.2.2),(79,.slice E b.length K),(80,ii b.length),(81,ii y.1)]) (λy=>b.length-y.1) rfl (0,[],(none,0)) ⟨c7 _,rfl⟩ ae.refl ⟨rfl,rfl,rfl,rfl,rfl,trivial⟩ ?_
  rintro⟨j,out,O⟩ ⟨hj,J⟩;dsimp only at hj J⊢;have bf:∀u∈b.map cz,u.oneCell'=true:=λu hu=>by obtain⟨z,_,rfl⟩:=fG.1 hu;rfl
  refine w ?_;refine zk ?_ ?_<;>intro I
  ·
   have A:j<b.length:=by have:=cI I;omega
   clear I;refine VC.bH (λw C=>C.bn (.tail _ (.tail _ (.head _)))) ?_;intro bw;have hr1:aV W (Sl.Own 140 1 (.slice O.1 out.length O.2) out.length (out.map cu.ei)::cG cu.own out::Sl.Own 3 1 (.slice E b.length K) b.length (b.map cz)::oB r S G R) 1 E b.length (b.map cz):=aV.own bf zm (by simp) bw;obtain⟨E,rfl⟩:∃x,E=some x:=by cases E with|none=>have:=bw rfl;omega|some x=>exact⟨x,rfl⟩
   obtain⟨i0,D,t⟩:∃i0,∃h:i0<S.length,S[i0].row=b[j]:=by
    have X:b[j]∈S.map (·.row):=(List.mergeSort_perm (S.map (·.row)) _).mem_iff.1 (by rw[<-ey,aa];exact fF A);obtain⟨s0,dr,e⟩:=fG.1 X;obtain⟨i0,D,rfl⟩:=List.mem_iff_getElem.1 dr;exact⟨i0,D,e⟩
   refine VC.bH (λw C=>Al C (.tail _ (.tail _ (.tail _ (.head _))))) ?_;intro bd;have bt:eK b[j]:=by rw[<-t];exact bd _ (fG.2 ⟨S[i0],fF D,rfl⟩)
   refine w ?_;refine VO.pure rfl rfl (af.fH ah rfl rfl hr1 (show(b.map cz)[j]?=some (cz b[j])by rw[law,fL A];rfl)) rfl ?_;refine w ?_;refine VO.pure rfl rfl (af.jT (k:=b[j]) rY wV bt (λw=>by simp;rfl) rfl rfl zm) rfl ?_;rw[top_get V D t];refine w ?_;refine VO.re 87 (.map (some S[i0].dV)) rfl rfl ?_;refine VO.aR (H':=Ff r S S[i0].dV S[i0].kv (S.eraseIdx i0) G out O E K b R) (λw C=>j4 (res:=dP.res) D ((ae.re:ae W _ (cG dP.res S::Sl.Own 140 1 (.slice O.1 out.length O.2) out.length (out.map cu.ei)::cG cu.own out::Sl.Own 3 1 (.slice (some E) b.length K) b.length (b.map cz)::db cz eK r (S.map dP.top)::cP G::R)) w C)) ?_;have bs:S[i0].kv.length<=1000000:=by rw[ew];have:=(V.each _ (fF D)).mx;omega
   refine zr (s:=Px (H:=Ff r S S[i0].dV S[i0].kv (S.eraseIdx i0) G out O E K b R) (some S[i0].dV)) (h:=?_);intro cr _;refine zr (s:=Kl (H:=Row cr 340 [.map (some S[i0].dV)]::Ff r S S[i0].dV S[i0].kv (S.eraseIdx i0) G out O E K b R) (.tail _ (.head _)) (.head _) bs) (h:=?_);rintro⟨qa,qc⟩ _;refine w ?_;obtain⟨g,Z⟩:∃g,ey (S[i0].kv.map (·.1))=g:=⟨_,rfl⟩;have av:g.length=S[i0].kv.length:=by rw[<-Z,ey,List.length_mergeSort,ew]
   have ct:g.length<=256:=by rw[av,ew];exact(V.each _ (fF D)).mx
   rw[Z,<-av];refine VC.aR (H':=bL (none,0) []::Sl.Own 3 1 (.slice qa g.length qc) g.length (g.map cz)::Ff r S S[i0].dV S[i0].kv (S.eraseIdx i0) G out O E K b R) (ae.trans (ae.re (L:=Sl.Own 3 1 (.slice qa g.length qc) g.length (g.map cz)::Ff r S S[i0].dV S[i0].kv (S.eraseIdx i0) G out O E K b R)) (λw C=>C.aZ 208 3)) ?_
   refine VC.loop (α:=Nat×List aj×(Option Addr×Nat)) (λy=>y.1<=g.length/\y.2.1=(g.take y.1).map λk=>(fj S[i0].es k).getD TX) (λy=>bL y.2.2 y.2.1::Sl.Own 3 1 (.slice qa g.length qc) g.length (g.map cz)::Ff r S S[i0].dV S[i0].kv (S.eraseIdx i0) G out O E K b R)
    (λy=>[(7,.map (some r)),(13,.slice O.1 out.length O.2),(15,ii b[j]),(16,.slice y.2.2.1 y.2.1.length y.2.2.2),(79,.slice (some E) b.length K),(80,ii b.length),(81,ii j),(89,.slice qa g.length qc),(90,ii g.length),(91,ii y.1)]) (λy=>g.length-y.1) rfl (0,[],(none,0)) ⟨c7 _,rfl⟩ ae.refl ⟨rfl,rfl,rfl,rfl,rfl,rfl,rfl,rfl,rfl,rfl,trivial⟩ ?_
   ·
    rintro⟨q,aA,xp⟩ ⟨hq,B⟩;dsimp only at hq B⊢;have ec:aA.length=q:=by rw[B,ew,j1];omega
    have an:∀u∈g.map cz,u.oneCell'=true:=λu hu=>by obtain⟨z,_,rfl⟩:=fG.1 hu;rfl
    refine w ?_;refine zk ?_ ?_<;>intro I
    ·
     have M:q<g.length:=by have:=cI I;omega
     clear I;refine VC.bH (λw C=>C.bn (.tail _ (.head _))) ?_;intro ba;have hr2:aV W (bL xp aA::Sl.Own 3 1 (.slice qa g.length qc) g.length (g.map cz)::Ff r S S[i0].dV S[i0].kv (S.eraseIdx i0) G out O E K b R) 1 qa g.length (g.map cz):=aV.own an zm (by simp) ba;obtain⟨qa,rfl⟩:∃x,qa=some x:=by cases qa with|none=>have:=ba rfl;omega|some x=>exact⟨x,rfl⟩
     refine VC.bH (λw C=>Al C (.tail _ (.tail _ (.head _)))) ?_;intro ag;have cy:eK g[q]:=by
      have X:g[q]∈S[i0].kv.map (·.1):=(List.mergeSort_perm (S[i0].kv.map (·.1)) _).mem_iff.1 (by rw[<-ey,Z];exact fF M);obtain⟨z,hz,e⟩:=fG.1 X;rw[<-e];exact ag z hz
     refine w ?_;refine VO.pure rfl rfl (af.fH ah rfl rfl hr2 (show(g.map cz)[q]?=some (cz g[q])by rw[law,fL M];rfl)) rfl ?_;refine w ?_;refine VO.pure rfl rfl (af.jT (k:=b[j]) rY wV bt (λw=>by simp;rfl) rfl rfl zm) rfl ?_;rw[top_get V D t];refine w ?_;refine VO.re 98 (.map (some S[i0].dV)) rfl rfl ?_;refine w ?_;refine VO.pure rfl rfl (af.jT (k:=g[q]) BT wV cy (λw=>by simp;rfl) rfl rfl zm) rfl ?_;obtain⟨p,ca⟩:∃p,(fj S[i0].es g[q]).getD TX=p:=⟨_,rfl⟩;rw[show(getD S[i0].kv g[q]).getD (.agg #[ii 0,ii 0,.slice none 0 0])= .agg p.cells.toArray by
      rw[<-ca,show getD S[i0].kv g[q]=fj S[i0].kv g[q]from rfl,Dt PQ];cases fj S[i0].es g[q]<;>rfl]
     refine zq ?_;refine ay.buildSlice (cs:=p.cells) ji rfl rfl (by simp[Value.cells]) (by simp[Value.cells]) (by decide) rfl ?_;intro nb;refine zq ?_;refine ay.cg ji rfl rfl zh zm rfl (dI p) (by simp only[maxLen];omega) zO rfl ?_;intro T Q;refine w ?_;refine VE.round (q+1,aA++[p],(T,Q)) ⟨M,by dsimp only;rw[nZ M,jv,B,<-ca];rfl⟩ (by dsimp only;omega) ⟨rfl,rfl,rfl,b7 rfl (by dsimp only;rw[c9,ie]),rfl,rfl,rfl,rfl,rfl,b7 rfl (by congr 1),trivial⟩ ?_;dsimp only;unfold bL;rw[im,c9,ie];exact ae.re
    have dn:q=g.length:=by have:=dx I;omega
    clear I;subst dn;rw[DK]at B;have cb:kh S b[j]=S[i0].es:=by
     unfold kh;rw[kS (l:=S.map λs=>(s.row,s.es)) (by rw[oS];exact V.one) (fG.2 ⟨S[i0],fF D,by rw[t]⟩)];rfl
    have dc:aA=gH S b[j]:=by
     unfold gH;rw[cb,B,<-Z,show S[i0].kv.map (·.1)=S[i0].es.map (·.1)by rw[oS];rfl]
    have eb:out.length=j:=by have:=lcs List.length J;rw[ew,ew,j1]at this;omega
    refine zw ?_;refine ay.buildSlice (cs:=[cu.ei ⟨xp.1,xp.2,aA⟩]) ND rfl rfl (by simp[Value.cells]) (by simp[Value.cells]) (by decide) rfl ?_;intro nb;refine zq ?_;refine ay.cg ND rfl rfl zh zm rfl (λu hu=>by rw[ju.1 hu];rfl) (by simp only[maxLen];omega) zO rfl ?_;intro T Q;refine w ?_;refine VE.round (j+1,out++[cu.mk xp.1 xp.2 aA],(T,Q)) ⟨A,by dsimp only;rw[nZ A,jv,jv,J,dc];rfl⟩ (by dsimp only;omega) ⟨rfl,b7 rfl (by dsimp only;rw[c9,ie]),rfl,rfl,b7 rfl (by congr 1),trivial⟩ ?_;dsimp only;rw[show(out++[cu.mk xp.1 xp.2 aA]).map cu.ei=out.map cu.ei++[cu.ei (cu.mk xp.1 xp.2 aA)]from jv,c9,ie];have da:List.Perm (S[i0]::S.eraseIdx i0) S:=(nI (fL D)).symm;generalize cc:S[i0]=s2 at*;generalize S.eraseIdx i0=S1 at*;exact λw C=>(ae.re:ae W (cG cu.own (out++[cu.mk xp.1 xp.2 aA])::cG dP.res S::Sl.Own 140 1 (.slice T (out.length+1) Q) (out.length+1) (out.map cu.ei++[cu.ei (cu.mk xp.1 xp.2 aA)])::Sl.Own 3 1 (.slice (some E) b.length K) b.length (b.map cz)::db cz eK r (S.map dP.top)::cP G::R) _) w (du (res:=cu.own) (a:=cu.mk xp.1 xp.2 aA) ((ae.re:ae W (cG dP.res S::cu.own (cu.mk xp.1 xp.2 aA)::cG cu.own out::Sl.Own 140 1 (.slice T (out.length+1) Q) (out.length+1) (out.map cu.ei++[cu.ei (cu.mk xp.1 xp.2 aA)])::Sl.Own 3 1 (.slice (some E) b.length K) b.length (b.map cz)::db cz eK r (S.map dP.top)::cP G::R) _) w (p9 (res:=dP.res) da (pZ (res:=dP.res) ((ae.re:ae W _ (s2.res::cG dP.res S1::cu.own (cu.mk xp.1 xp.2 aA)::cG cu.own out::Sl.Own 140 1 (.slice T (out.length+1) Q) (out.length+1) (out.map cu.ei++[cu.ei (cu.mk xp.1 xp.2 aA)])::Sl.Own 3 1 (.slice (some E) b.length K) b.length (b.map cz)::db cz eK r (S.map dP.top)::cP G::R)) w C)))))
  have cS:j=b.length:=by have:=dx I;omega
  clear I;subst cS;rw[DK]at J;refine w ?_;exact VE.done (CJ.mk O out S G) rfl ⟨V,bG,au,by rw[J,aa]⟩ rfl ae.re
end Go.Proofs.YtonpidcjpenflaaGreat
namespace Go.Proofs.YtonpidcjpenflaaGreat
open Go.RowKit Go.Sl
attribute [local irreducible] Sl.Own
def Ed(out:List cu):Nat:=(out.map λq=>q.aA.length).sum
def kz(out:List cu):Nat:=out.length+Ed out
theorem fJ.outs{m c:Nat}{l:List cQ}{y:CJ}(h:fJ m c l y):y.out.length<=l.length/\∀q∈y.out,q.aA.length<=l.length:=by
  have e:=lcs List.length h.out;rw[ew,ew,ey,List.length_mergeSort,ew]at e;refine⟨by rw[e];exact h.mx,λq d=>?_⟩;have b:q.aA∈(ey (y.S.map (·.row))).map (gH y.S):=by rw[<-h.out];exact List.mem_map_of_mem d
  obtain⟨r,_,f⟩:=fG.1 b;rw[<-f];unfold gH;rw[ew,ey,List.length_mergeSort,ew];unfold kh;cases a:fj (y.S.map λs=>(s.row,s.es)) r with
  |none=>exact c7 _
  |some es=>
    unfold fj at a;obtain⟨z,i,rfl⟩:=Option.map_eq_some_iff.1 a;obtain⟨s,g,rfl⟩:=fG.1 (List.mem_of_find?_eq_some i);exact h.each s g
theorem BU{n:Nat}:∀(out:List cu),(∀q∈out,q.aA.length<=n)->Ed out<=out.length*n
  |[],_=>c7 _
  |q::r,h=>by
    have:=BU r λx a=>h x (.tail _ a);have:=h q (.head _);show q.aA.length+Ed r<=(r.length+1)*n;rw[ux];omega
theorem HO{W:World}{R:List ab}{m c s:Nat}(B:3<=m/\m<=16)(b:1<=c/\c<=16)(E:1<=s/\s<=256){ao:Option Addr}{cap:Nat}{l:List cQ}(t:l.length<=256)(C:iT W R ao l)(A:∀p∈l,p.dV<s*c* (m-1)):
  aq W Tryz.prog 105 [.agg (cv m c s).toArray,.slice ao l.length cap] R (β:=CJ) (fJ m c l) (λy=>.tuple #[ii (kz y.out),i6 0]) (λy=>R):=by
 refine ze Tryz.func105 Tryz.ntmps105 ?_;refine zj λ_=>?_;refine w ?_;rename_i o;refine zr (s:=EI (R:=Row o 36 (cv m c s)::R) B b E t (C.aR (ae.drop ae.refl)) A) (h:=?_);rintro y v;obtain⟨H,r⟩:=v.outs;have f:∀u∈y.out.map cu.ei,u.oneCell'=true:=λu F=>by obtain⟨z,_,rfl⟩:=fG.1 F;rfl
 refine w ?_;refine VC.bH (λw G=>G.bn (.head _)) ?_;intro d;have hr1:aV W (Sl.Own 140 1 (.slice y.x.1 y.out.length y.x.2) y.out.length (y.out.map cu.ei)::cG cu.own y.out::cP y.G::Row o 36 (cv m c s)::R) 1 y.x.1 y.out.length (y.out.map cu.ei):=aV.own f (.head _) (by simp) d
 refine VC.loop (α:=Nat) (λj=>j<=y.out.length) (λ_=>Sl.Own 140 1 (.slice y.x.1 y.out.length y.x.2) y.out.length (y.out.map cu.ei)::cG cu.own y.out::cP y.G::Row o 36 (cv m c s)::R)
  (λj=>[(7,i6 0),(8,ii ((y.out.length+Ed (y.out.take j):Nat):Int)),(19,.slice y.x.1 y.out.length y.x.2),(20,ii y.out.length),(21,ii j)]) (λj=>y.out.length-j) rfl 0 (c7 _) ae.refl ⟨rfl,rfl,rfl,rfl,rfl,trivial⟩ ?_
 intro j J;have k:=BU (n:=256) (y.out.take j) λq D=>qX (r q (RD D)) t;rw[j1]at k;refine w ?_;refine zk ?_ ?_<;>intro b
 ·
  have a:j<y.out.length:=by have:=cI b;omega
  clear b;obtain⟨K,i⟩:∃x,y.x.1=some x:=by cases e:y.x.1 with|none=>have:=d e;omega|some x=>exact⟨x,rfl⟩
  rw[i]at hr1⊢;refine w ?_;refine VO.pure rfl rfl (af.fH ah rfl rfl hr1 (show(y.out.map cu.ei)[j]?=some (cu.ei y.out[j])by rw[law,fL a];rfl)) rfl ?_;have I:=r _ (fF a);refine w ?_;exact VE.round (j+1) a zO ⟨rfl,b7 rfl (by rw[nZ a];unfold Ed;rw[jv,List.sum_append];simp;omega),rfl,rfl,b7 rfl (by congr 1),trivial⟩ ae.refl
 have g:j=y.out.length:=by have:=dx b;omega
 clear b;subst g;rw[DK];refine w ?_;exact VE.done y rfl v rfl ae.re
theorem Pd{W:World}{R:List ab}{m c s:Nat}(g:3<=m/\m<=16)(e:1<=c/\c<=16)(f:1<=s/\s<=256)(r:Nat)(k:r<s*c):
  aq W Tryz.prog 352 [.agg (cv m c s).toArray,ii r] R (β:=Nat) (λz=>z=eD m (r/c)) (λz=>.tuple #[ii z,i6 0]) (λ_=>R):=by
 have h:s*c<=256*16:=mo f.2 e.2;have j:r/c<=r:=Nat.div_le_self r c;obtain⟨st,d⟩:∃q,r/c=q:=⟨_,rfl⟩;refine ze Tryz.func352 Tryz.ntmps352 ?_;refine zj λ_=>?_;refine zt (s:=vC g e f) (h:=?_);intro _ _;refine zw ?_;refine ay.aB rh rfl ?_;intro l;refine zS (yX m c s) ?_;refine zt (s:=pP m c s e f) (h:=?_);intro _ _;refine w ?_;refine VC.aK rfl rfl (gx zO) ?_;refine w ?_;refine zx [] 6 [0,1,2,3,4,5,6,7,8] _ ?_;refine w ?_;refine VD.take rfl rfl rfl (af.quo (a:=r) (b:=c) rfl rfl zO (by rw[d];exact IntWalk.i64_in _ ⟨by omega,by omega⟩)) rfl ?_;rw[d];refine zt (s:=qT m c s g st zO) (h:=?_);intro z i;refine w ?_;exact VE.done z rfl i rfl (ae.drop (ae.drop ae.refl))
end Go.Proofs.YtonpidcjpenflaaGreat
namespace Go.Sl
open Go Go.RowKit
section
variable{W:World}{P:Program}{n:Nat}{m:Md}{c:Code}{Q:Exit->Act->World->Prop}{H H' L R G G':List ab}{f F:Fr}{N:List ab->Fr->Prop}
variable{dst:Option Tmp}{d:Nat}{ty_:TypeId}{pos:String}{after:Array Edge}{guard:Option (Nat×Bool)}
theorem VO.Re{k:Nat}{x:Operand}{xs:Array Operand}{ats:Array TypeId}{fn:Fn}{cap:Array Value}{vs:List Value}(j:(aG c)[k]?=some {dst:=none,op:= .defer {callee:= .value x,args:=xs,argTypes:=ats},type:=ty_,pos,after,guard:=none})(i:(aG c)[k+1]?=none)
  (o:aD f x=some (.func fn #[] cap))(g:jo f xs.toList=some vs)(h:VF W n ⟨none,[{target:= .fn fn cap,args:=vs.toArray}]⟩ Q .normal H f):VO W P n c k (EE [] Q) H f:=by
 unfold VF at h;unfold VO;intro t w b l;have a:xs.map (Act.eval ⟨t,[]⟩)=vs.toArray:=by
  have:=b.args g;apply Array.ext';simpa using this
 rw[lX j,Tl (by simpa using i)];unfold wpList;rw[lam (by unfold Region.wanted;rfl)];left;unfold Oper.wp execOp;simp only[resolve,b.eval o,a,Deferred.ofValue,Sem.run_bind,Sem.run_pure,Result.andThen_ok,Oper.upon,wpList,Act.put,Array.empty_append];unfold EE;intro e;exact h e t w b l
theorem uz{fn:Func}{g:FuncId}{cap:Array Value}{vs:List Value}{t:Array Value}{u j:FrameMode}{rv h:ResultVar}{v v2:Value}{β:Type}{A:β->Prop}{r:β->Value}{G:β->List ab}{w:World}(B:u≠.run)(z:settle j= .returning)
  (q:∀a w,(callFunc g a).run P w= .ok (.enter g a) w)(spec:jm W P g (vs++cap.toList) H u j G')(x:β)(y:fn.results=#[rv,h])(k:aL W P G' f rv v)(l:aL W P G' f h v2)(o:A x)(C:.tuple #[v,v2]=r x)(p:ae W G' (G x))
  (s:bS n f t)(D:Holds W H w):Leaves P fn t (lh W A r G) [{target:= .fn (.func g) cap,args:=vs.toArray}] u w:=by
 refine leaves_cons (f:=g) (args:=vs.toArray++cap) B (by simp[Go.invoke,q]) ?_;unfold jm at spec;have b:=spec w D;rw[show(vs++cap.toList).toArray=vs.toArray++cap by apply Array.ext';simp]at b;refine CallsD.mono b ?_;rintro e E I ⟨rfl,⟨v0,rfl⟩,i⟩;simp only;rw[z];exact⟨_,Ca y k l s i,x,o,by rw[C],p _ i⟩
theorem VF.tg{fn:Func}{g:FuncId}{cap:Array Value}{vs:List Value}{rv b:ResultVar}{v v2:Value}{e:Exit}{β:Type}{A:β->Prop}{r:β->Value}{G:β->List ab}(o:e= .ret\/e= .normal)
  (l:∀a w,(callFunc g a).run P w= .ok (.enter g a) w)(spec:jm W P g (vs++cap.toList) H .returning .returning G')(x:β)(q:fn.results=#[rv,b])(h:aL W P G' f rv v)(i:aL W P G' f b v2)(j:A x)(s:.tuple #[v,v2]=r x)(k:ae W G' (G x)):
  VF W n ⟨none,[{target:= .fn (.func g) cap,args:=vs.toArray}]⟩ (bodyPostD P fn (lh W A r G)) e H f:=by
 unfold VF;intro _ t w p u;rcases o with rfl|rfl<;>exact uz (by simp) rfl l spec x q h i j s k p u
theorem VF.JC{fn:Func}{g g2:FuncId}{cap cap2:Array Value}{vs vs2:List Value}{G2:List ab}{rv i:ResultVar}{v v2:Value}{e:Exit}{β:Type}{A:β->Prop}{r:β->Value}{G:β->List ab}(u:e= .ret\/e= .normal)
  (s:∀a w,(callFunc g a).run P w= .ok (.enter g a) w)(j:∀a w,(callFunc g2 a).run P w= .ok (.enter g2 a) w)(spec:jm W P g (vs++cap.toList) H .returning .returning G2)(b:jm W P g2 (vs2++cap2.toList) G2 .returning .returning G')(x:β)(z:fn.results=#[rv,i])(k:aL W P G' f rv v)(l:aL W P G' f i v2)(o:A x)(B:.tuple #[v,v2]=r x)(q:ae W G' (G x)):
  VF W n ⟨none,[{target:= .fn (.func g) cap,args:=vs.toArray},{target:= .fn (.func g2) cap2,args:=vs2.toArray}]⟩ (bodyPostD P fn (lh W A r G)) e H f:=by
 unfold VF;intro _ t w y C;have key:Leaves P fn t (lh W A r G) [{target:= .fn (.func g) cap,args:=vs.toArray},{target:= .fn (.func g2) cap2,args:=vs2.toArray}] .returning w:=by
  refine leaves_cons (f:=g) (args:=vs.toArray++cap) (by simp) (by simp[Go.invoke,s]) ?_;unfold jm at spec;have h:=spec w C;rw[show(vs++cap.toList).toArray=vs.toArray++cap by apply Array.ext';simp]at h;refine CallsD.mono h ?_;rintro e D E ⟨rfl,⟨v0,rfl⟩,p⟩;exact uz (by simp[settle]) rfl j b x z k l o B q y p
 rcases u with rfl|rfl<;>exact key
theorem VR.iF{df:List Deferred}{x:Operand}{xs:Array Operand}{ats:Array TypeId}{fn:Fn}{cap:Array Value}{vs:List Value}(k:dg c=some false)(l:aG c=[{dst:=none,op:= .defer {callee:= .value x,args:=xs,argTypes:=ats},type:=ty_,pos,after,guard:=none}])
  (q:aD f x=some (.func fn #[] cap))(o:jo f xs.toList=some vs)(h:VF W n ⟨none,{target:= .fn fn cap,args:=vs.toArray}::df⟩ Q .normal H f):VR W P n ⟨none,df⟩ c Q H f:=by
 unfold VF at h;unfold VR;cases c<;>simp[dg]at k;subst k;intro i t w e p;have j:(Act.mk t df).eval=(Act.mk t []).eval:=xI ⟨t,[]⟩ df;have a:xs.map (Act.eval ⟨t,df⟩)=vs.toArray:=by
  rw[j];have:=e.args o;apply Array.ext';simpa using this
 have b:Act.eval ⟨t,df⟩ x= .func fn #[] cap:=by rw[j];exact e.eval q
 simp only[aG]at l;refine wpIn_region_list ?_;rw[l];unfold wpListIn;rw[lam (by unfold Region.wanted;rfl)];unfold Oper.wpIn;refine⟨λg _=>wE _ g,?_⟩;rw[show(Oper.semAt (CB (Md.mk none df).r).round (Act.eval ⟨t,(Md.mk none df).df⟩) {dst:=none,op:= .defer {callee:= .value x,args:=xs,argTypes:=ats},type:=ty_,pos,after,guard:=none}).run P w= .ok (.defer {target:= .fn fn cap,args:=vs.toArray}) w by
  simp only[I8];unfold Oper.semAt execOp;simp only[resolve,b,a,Deferred.ofValue,Sem.run_bind,Sem.run_pure,Result.andThen_ok,Array.empty_append]]
 rw[Oper.uponIn_defer];unfold wpListIn;exact h i t w e p
theorem jm.Rl{g:FuncId}{fn:Func}{args:List Value}{u:FrameMode}(z:P.funcs[g]?=some fn)(C:fn.ntmps=n)(y:fn.body.isSome=true)(B:Nat.ble args.length n=true)
    (h:VC W P n (gq fn) (bodyPost P fn (λe t=>(∃v,e= .returned v)/\Holds W G t)) H (vZ 0 args)):jm W P g args H u u G:=by
  unfold VC at h;unfold jm;intro w D;obtain⟨c,s⟩:=Option.isSome_iff_exists.1 y;refine callsD_of_wpS z s λj cs I=>?_;have k:gq fn=c:=by rw[gq,s];rfl
  rw[k]at h;have A:=bS.start args n (Nat.le_of_ble_eq_true B);rw[C]at*;have b:j::cs={j with mode:=u}::cs:=by cases j;simp_all
  have x:=h _ w A D;refine wpS_of_wp (Code.wp_mono ?_ x);intro e a t q;cases e with
  |normal=>
    obtain⟨o,v,p,r⟩:=q;exact⟨o,u,b,v,p,rfl,⟨v,rfl⟩,r.2⟩
  |ret=>
    obtain⟨o,v,p,r⟩:=q;exact⟨o,u,b,v,p,rfl,⟨v,rfl⟩,r.2⟩
  |panic E=>obtain⟨_,⟨v,e⟩,_⟩:=q;cases e
  |outgrown=>obtain⟨⟨v,e⟩,_⟩:=q;cases e
  |exit i=>exact q.elim
  |goto l=>exact q.elim
end
end Go.Sl
namespace Go.Proofs.YtonpidcjpenflaaGreat
open Go.RowKit Go.Sl
attribute [local irreducible] Sl.Own
structure mZ where
  x:Option Addr×Nat
  D:aw
abbrev mZ.v(y:mZ):Value:= .tuple #[.slice y.x.1 128 y.x.2,.agg #[ii 0,i6 0]]
abbrev Qo(b:List UInt8)(y:mZ)(R:List ab):List ab:=Sl.Own 5 1 (.slice y.x.1 128 y.x.2) 128 (bytes b)::R
def gB(fr:List Int)(k row:Nat):Prop:=fr.getD k (-1)≠-1/\fr.getD k (-1)<=row
instance dwnDec (fr:List Int)(k row:Nat):Decidable (gB fr k row):=by unfold gB;exact inferInstance
theorem jL{W:World}{R:List ab}(r:Nat)(X:eA)(fr:List Int)(a:fr.length=X.m)(k:Nat)(b:k<X.m)(row:Nat):
  az W Tryz.prog 199 [ip r,ii k,ii row] (de r X fr R) (.bool (decide (gB fr k row))) (de r X fr R):=by
 have h:=M7 (W:=W) (R:=R) r X fr a k b row;have e:fr.getD k (-1)=fr[k]'(a▸b):=by rw[List.getD_eq_getElem?_getD,fL (a▸b)];rfl
 unfold gB;simp only[e];exact h
structure Data(X:eA)(fr:List Int)(K:Kd)(V:Nat->Nat->List UInt8):Prop where
  len:fr.length=X.m
  one:∀i j,i<X.m->j<X.m->fr.getD i (-1)≠-1->fr.getD j (-1)≠-1->i=j
  mu:∀k row,k<X.m->row<X.s*X.c->(V k row).length=128
  par:∀row,row<X.s*X.c->ia (λk=>V k row) X.m=dC
  wait:∀(k row:Nat) d,cq X.wl k row=some d->d=V k row
  is:∀k row,k<X.m->row<X.s*X.c->¬gB fr k row->∃kd,K k=some kd/\1+X.s*X.c<=kd.last.length/\(cq X.wl k row=none->kd.look (1+row)=V k row)
  y0:∀p∈X.wl,p.d.data.length=128
  y4:X.wl.length<=1000000
theorem tM{W:World}{R:List ab}{D:aw}{K:Kd}{V:Nat->Nat->List UInt8}{n c0:Nat}(r:Nat)(X:eA)(j:X.ok)(fr:List Int)(i:Data X fr K V)(C:bq W R X.wo X.wl)(v:Bq D n K c0)(k:Nat)(p:k<X.m)(row:Nat)(f:row<X.s*X.c)(e:(cq X.wl k row).isSome=true\/¬gB fr k row):
    aq W Tryz.prog 165 [ip r,ii k,ii row] (de r X fr (al X.b D::R)) (β:=mZ) (λy=>Bq y.D n K c0) mZ.v (λy=>Qo (V k row) y (de r X fr (al X.b y.D::R))):=by
  have E:X.s*X.c<=256*16:=mo j.s.2 j.c.2;have m:=i.mu k row p f;have A:∀o:Nat,ae W (Sl.Own 3 1 (.slice (ik X.fa) X.m X.m) X.m (j8 fr)::al X.b D::Row o 174 [ii 0,i6 0]::R) R:=λo=>ae.drop (ae.drop (ae.drop ae.refl));refine ze Tryz.func165 Tryz.ntmps165 ?_;refine zq ?_;refine ay.aB bE rfl ?_;intro o;refine zr (s:=xQ r X k) (h:=?_);intro _ _;rw[ky (show 0<=(k:Int)/\(k:Int)<X.m by omega)];refine zt (s:=gn j.m j.c j.s) (h:=?_);intro _ _;refine w ?_;refine VC.aK rfl rfl (gx zO) ?_;refine zr (s:=xU r X k row (C.aR (A o)) i.y0 i.y4) (h:=?_);intro y _;cases g:cq X.wl k row with
  |some d=>
    have B:=i.wait k row d g;subst B;refine w ?_;apply VO.pure rfl rfl;apply af.build bE (pv:=[]) rfl;rfl;rfl;refine zS ([ii 0,i6 0]) ?_;refine VE.results2 (.inl rfl) (mZ.mk y D) rfl (.tmp rfl) (aL.agg (vs:=[ii 0,i6 0]) ah rfl rfl zm rfl rfl) v (by show Value.tuple #[.slice y.1 (V k row).length y.2,_]=_;rw[m]) ?_;rw[show b8 y ((some (V k row)).getD [])=Sl.Own 5 1 (.slice y.1 128 y.2) 128 (bytes (V k row))by show b8 y (V k row)=_;unfold b8;rw[m]];exact ae.re
  |none=>
    have e:¬gB fr k row:=e.resolve_left (by rw[g];simp);obtain⟨kd,q,u,b⟩:=i.is k row p f e;have b:=b g;obtain⟨D2,z,t⟩:=v.read (a:=1+row) q zO;have c:=λR=>nk (W:=W) (R:=R) X.b D k ((1+row:Nat):Int);rw[z,b,show sliceB=λ(x:Option Addr×Nat)(l:List UInt8)=>Value.slice x.1 l.length x.2 from rfl]at c;simp only[m]at c;refine zr (s:=jL r X fr i.len k p row) (h:=?_);intro _ _;rw[gx e];refine w ?_;refine VO.re 57 (ii ((1+row:Nat):Int)) rfl (by congr 1) ?_;refine zr (s:=c _) (h:=?_);intro x F;refine zt (s:=l8 k 0) (h:=?_);intro _ _;refine zS ([ii 0,i6 0]) ?_;refine VE.results2 (.inl rfl) (mZ.mk x D2) rfl (.tmp rfl) (aL.agg (vs:=[ii 0,i6 0]) ah rfl rfl zm rfl rfl) t rfl ?_;rw[show b8 x (V k row)=Sl.Own 5 1 (.slice x.1 128 x.2) 128 (bytes (V k row))by unfold b8;rw[m]];exact ae.re
abbrev BM:aU:=⟨none,0,[]⟩
theorem Gw{W:World}{R:List ab}{D:aw}{K:Kd}{V:Nat->Nat->List UInt8}{n c0:Nat}(r:Nat)(X:eA)(J:X.ok)(fr:List Int)(A:Data X fr K V)(v:bq W R X.wo X.wl)(hq:Bq D n K c0)(k:Nat)(Y:k<X.m)(row:Nat)(c:row<X.s*X.c)(U:gB fr k row):
    aq W Tryz.prog 247 [ip r,ii k,ii row] (de r X fr (al X.b D::R)) (β:=mZ) (λy=>Bq y.D n K c0) mZ.v (λy=>Qo (V k row) y (de r X fr (al X.b y.D::R))):=by
  have ad:=J.m;have Q:∀i,i<X.m->i≠k->¬gB fr i row:=λi S l T=>l (A.one i k S Y T.1 U.1);have eW:∀t:Nat,ae W (Sl.Own 3 1 (.slice (ik X.fa) X.m X.m) X.m (j8 fr)::al X.b D::Row t 174 [ii 0,i6 0]::R) R:=λt=>ae.drop (ae.drop (ae.drop ae.refl));refine ze Tryz.func247 Tryz.ntmps247 ?_;refine zq ?_;refine ay.aB bE rfl ?_;intro t;refine w ?_
  refine VC.loop (α:=Nat) (λi=>i<=X.m) (λ_=>Row t 174 [ii 0,i6 0]::de r X fr (al X.b D::R))
    (λi=>[(0,ip r),(1,ii k),(2,ii row),(7,ip t),(21,ii X.m),(22,ii i)]) (λi=>X.m-i) rfl 0 (c7 _) ae.re ⟨rfl,rfl,rfl,rfl,rfl,rfl,trivial⟩ ?_
  intro i S;refine w ?_;refine zk ?_ ?_<;>intro u
  · have b:i<X.m:=by have:=cI u;omega
    refine zr (s:=xU r X i row (v.aR (eW t)) A.y0 A.y4) (h:=?_)
    intro yw _
    refine w ?_
    refine zg ?_ ?_<;>intro hb
    · have l:i≠k:=by
        intro e;subst e;have:((i:Int) != (i:Int))=true:=hb;simp at this
      refine zr (s:=jL r X fr A.len i b row) (h:=?_);intro _ _
      rw[gx (Q i b l)]
      refine w ?_
      exact VE.round (i+1) b zO ⟨rfl,rfl,rfl,rfl,rfl,b7 rfl (by congr 1),trivial⟩ ae.re
    · refine w ?_
      exact VE.round (i+1) b zO ⟨rfl,rfl,rfl,rfl,rfl,b7 rfl (by congr 1),trivial⟩ ae.re
  clear u;refine zw ?_;refine ay.dd (m:=X.m) yf rfl rfl rfl zO (by simp only[maxLen];omega) rfl ?_;intro z;refine w ?_
  refine VC.loop (α:=Nat×List aU×aw) (λy=>y.1<=X.m/\y.2.1.length=y.1/\Bq y.2.2 n K c0/\∀j (h:j<y.2.1.length),j≠k->y.2.1[j].data=V j row)
    (λy=>Sl.Own 38 1 (.slice (ik z) X.m X.m) X.m (y.2.1.map aU.ei++List.replicate (X.m-y.1) (.slice none 0 0))::cP y.2.1::Row t 174 [ii 0,i6 0]::de r X fr (al X.b y.2.2::R))
    (λy=>[(0,ip r),(1,ii k),(2,ii row),(7,ip t),(11,.slice (ik z) X.m X.m),(54,ii X.m),(55,ii y.1)]) (λy=>X.m-y.1) rfl (0,[],D) ⟨c7 _,rfl,hq,λj h=>cN h (Nat.not_lt_zero _)⟩
    (ae.trans (λw v=>di (res:=aU.res) v) (by simp only[DL,BI,Nat.sub_zero];exact ae.re)) ⟨rfl,rfl,rfl,rfl,rfl,rfl,rfl,trivial⟩ ?_
  rintro⟨i,L,D'⟩ ⟨S,C,B,d⟩;dsimp only at S C B d⊢;refine VC.bH (λw v=>cP.bH v.tail) ?_;intro Z;refine w ?_;refine zk ?_ ?_<;>intro u
  · have b:i<X.m:=by have:=cI u;omega
    clear u
    have E:∀e:aU,(L.map aU.ei++List.replicate (X.m-i) (Value.slice none 0 0)).set i e.ei=(L++[e]).map aU.ei++List.replicate (X.m-(i+1)) (Value.slice none 0 0):=λe=>by
      rw[show X.m-i=X.m-(i+1)+1 by omega,List.replicate_succ,jv,JB _ _ (by rw[ew];omega),ew,C,BH,List.set_cons_zero,lx];rfl
    refine w ?_
    refine zk ?_ ?_<;>intro u
    · have N:i=k:=by have:=u;simp at this;omega
      refine w ?_
      refine VE.round (i+1,L++[BM],D') ⟨b,by rw[c9,ie,C],B,λj p H=>?_⟩ (by dsimp only;omega) ⟨rfl,rfl,rfl,rfl,rfl,rfl,b7 rfl (by congr 1),trivial⟩ ?_
      · have p:j<L.length:=by
          rw[c9,ie]at p;omega
        dsimp only
        rw[TV p]
        exact d j p H
      · dsimp only
        rw[<-E BM,JB _ _ (by rw[ew];omega),ew,C,BH,show X.m-i=X.m-(i+1)+1 by omega,List.replicate_succ,List.set_cons_zero]
        exact λw v=>(ae.re:ae W (cP (L++[BM])::_::_) _) w (du (res:=aU.res) (a:=BM) ((ae.re:ae W (Sl.Own 5 1 (.slice none 0 0) 0 []::_::cP L::_) _) w (v.aZ 5 1)))
    · have N:i≠k:=by
        intro e;subst e;have:((i:Int)==(i:Int))=false:=u;simp at this
      refine w ?_
      have I:=A.mu i row b c
      have F:=tM (W:=W) (R:=Sl.Own 38 1 (.slice (ik z) X.m X.m) X.m (L.map aU.ei++List.replicate (X.m-i) (.slice none 0 0))::cP L::Row t 174 [ii 0,i6 0]::R) r X J fr A (v.aR (ae.drop (ae.drop (ae.drop ae.refl)))) B i b row c (.inr (Q i b N))
      obtain⟨o,O⟩:∃o,V i row=o:=⟨_,rfl⟩
      rw[O]at F I
      refine zr (s:=F) (h:=?_)
      rintro⟨x,D2⟩ P
      dsimp only at P⊢
      refine zw ?_;refine ay.aB bE rfl ?_;intro n14
      refine zS ([ii 0,i6 0]) ?_
      refine VO.re 74 (aU.ei ⟨x.1,x.2,o⟩) rfl (by show Value.slice x.1 128 x.2=Value.slice x.1 o.length x.2;rw[I]) ?_
      refine zq ?_
      refine ay.EJ ah rfl rfl rfl rfl zh (by rw[c9,ew,j0];omega) ?_
      rw[E]
      have er:Sl.Own 5 1 (.slice x.1 128 x.2) 128 (bytes o)=aU.res ⟨x.1,x.2,o⟩:=by unfold aU.res;dsimp only;rw[I]
      dsimp only[Qo]
      rw[er]
      refine w ?_
      refine VE.round (i+1,L++[⟨x.1,x.2,o⟩],D2) ⟨b,by rw[c9,ie,C],P,λj p H=>?_⟩ (by dsimp only;omega) ⟨rfl,rfl,rfl,rfl,rfl,rfl,b7 rfl (by congr 1),trivial⟩ ?_
      · rw[c9,ie]at p
        dsimp only
        rcases Aj j L.length with q|q
        · rw[TV q]
          exact d j q H
        · obtain rfl:j=L.length:=by omega
          rw[List.getElem_concat_length rfl];show o=V L.length row;rw[C];exact O.symm
      · dsimp only
        exact λw v=>(ae.re:ae W (cP (L++[aU.mk x.1 x.2 o])::_) _) w (du (res:=aU.res) (a:=⟨x.1,x.2,o⟩) ((ae.re:ae W _ (aU.res ⟨x.1,x.2,o⟩::cP L::Sl.Own 38 1 (.slice (ik z) X.m X.m) X.m ((L++[aU.mk x.1 x.2 o]).map aU.ei++List.replicate (X.m-(i+1)) (.slice none 0 0))::Row t 174 [ii 0,i6 0]::de r X fr (al X.b D2::R))) w v))
  have M:i=X.m:=by have:=dx u;omega
  clear u;have hO:Sl.Own 38 1 (.slice (ik z) X.m X.m) X.m (L.map aU.ei++List.replicate (X.m-i) (.slice none 0 0))=iC (ik z,X.m) L:=by
    unfold iC;rw[C,M];simp
  rw[hO];have aa:qI W (iC (ik z,X.m) L::cP L::Row t 174 [ii 0,i6 0]::de r X fr (al X.b D'::R)) (ik z) L:=qI.own (x:=(ik z,X.m)) (by simp) Z zm zm;refine w ?_;have T:∀j (h:j<L.length),j≠k->L[j].data.length=128:=λj p l=>by rw[d j p l];exact A.mu j row zO c
  have G:=KM (W:=W) (cap:=X.m) J.m J.c J.s Y c L (C.trans M) aa T
  rw[jQ (g:=λi=>if i=k then dC else V i row) (λj p=>by split;· rfl
                                                       · rename_i l;rw[vv zO];exact d j zO l),GZ (f:=λi=>V i row) (λj p=>A.mu j row p c) Y (A.par row c)]at G
  refine zt (s:=G) (h:=?_);intro x2 _;refine zt (s:=l8 0 0) (h:=?_);intro _ _;refine zS ([ii 0,i6 0]) ?_;exact VE.results2 (.inl rfl) (mZ.mk x2 D') rfl (.tmp rfl) (aL.agg (vs:=[ii 0,i6 0]) ah rfl rfl zm rfl rfl) B rfl ae.re
theorem xT{W:World}{R:List ab}{D:aw}{K:Kd}{V:Nat->Nat->List UInt8}{n c0:Nat}(r:Nat)(X:eA)(b:X.ok)(fr:List Int)(d:Data X fr K V)(g:bq W R X.wo X.wl)(m:Bq D n K c0)(k:Nat)(f:k<X.m)(row:Nat)(a:row<X.s*X.c):
  aq W Tryz.prog 165 [ip r,ii k,ii row] (de r X fr (al X.b D::R)) (β:=mZ) (λy=>Bq y.D n K c0) mZ.v (λy=>Qo (V k row) y (de r X fr (al X.b y.D::R))):=by
 have q:X.s*X.c<=256*16:=mo b.s.2 b.c.2;have o:∀e:Nat,ae W (Sl.Own 3 1 (.slice (ik X.fa) X.m X.m) X.m (j8 fr)::al X.b D::Row e 174 [ii 0,i6 0]::R) R:=λe=>ae.drop (ae.drop (ae.drop ae.refl));by_cases c:(cq X.wl k row).isSome=true\/¬gB fr k row
 · exact tM r X b fr d g m k f row a c
 have i:cq X.wl k row=none:=by simpa using λh=>c (.inl h)
 have l:gB fr k row:=Decidable.byContradiction λh=>c (.inr h);refine ze Tryz.func165 Tryz.ntmps165 ?_;refine zq ?_;refine ay.aB bE rfl ?_;intro e;refine zr (s:=xQ r X k) (h:=?_);intro _ _;rw[ky (show 0<=(k:Int)/\(k:Int)<X.m by omega)];refine zt (s:=gn b.m b.c b.s) (h:=?_);intro _ _;refine w ?_;refine VC.aK rfl rfl (gx zO) ?_;refine zr (s:=xU r X k row (g.aR (o e)) d.y0 d.y4) (h:=?_);intro p _;rw[i];refine zr (s:=jL r X fr d.len k f row) (h:=?_);intro _ _;rw[ky l];refine zr (s:=Gw (R:=b8 p []::Row e 174 [ii 0,i6 0]::R) r X b fr d (g.aR (ae.drop (ae.drop ae.refl))) m k f row a l) (h:=?_);rintro⟨x,D'⟩ j;dsimp only at j⊢;refine zS ([ii 0,i6 0]) ?_;exact VE.results2 (.inl rfl) (mZ.mk x D') rfl (.tmp rfl) (aL.agg (vs:=[ii 0,i6 0]) ah rfl rfl zm rfl rfl) j rfl ae.re
theorem Nl{W:World}{R:List ab}{D:aw}{K:Kd}{V:Nat->Nat->List UInt8}{n c0:Nat}(r:Nat)(X:eA)(a:X.ok)(fr:List Int)(i:Data X fr K V)(m:bq W R X.wo X.wl)(l:Bq D n K c0)(k:Nat)(j:k<X.s*X.c* (X.m-1)):
  aq W Tryz.prog 104 [ip r,ii k] (de r X fr (al X.b D::R)) (β:=mZ) (λy=>Bq y.D n K c0) mZ.v (λy=>Qo (V (cJ X.m X.c k).av (cJ X.m X.c k).row) y (de r X fr (al X.b y.D::R))):=by
 refine ze Tryz.func104 Tryz.ntmps104 ?_;refine zq ?_;refine ay.aB bE rfl ?_;intro p;refine zt (s:=zX a.m a.c a.s j) (h:=?_);rintro⟨st,row,b,f⟩ ⟨⟨c,d⟩,g⟩;rw[<-g];dsimp only at c d⊢;refine zw ?_;refine ay.aB Cb rfl ?_;intro o;refine zS ([ii st,ii row,ii b,ii f]) ?_;refine zr (s:=xT (R:=Row o 249 [ii st,ii row,ii b,ii f]::Row p 174 [ii 0,i6 0]::R) r X a fr i (m.aR (ae.drop (ae.drop ae.refl))) l b d row c) (h:=?_);rintro⟨x,D'⟩ e;dsimp only at e⊢;refine zS ([ii 0,i6 0]) ?_;exact VE.results2 (.inl rfl) (mZ.mk x D') rfl (.tmp rfl) (aL.agg (vs:=[ii 0,i6 0]) ah rfl rfl zm rfl rfl) e rfl ae.re
def yL:Option aj->List Value
  |none=>mw
  |some p=>p.cells
def rowOf(r:Int):Option aj->Int
  |none=>r
  |some p=>p.row
def BW(ps:List aj):Option aj->List aj
  |none=>ps
  |some p=>ps.filter λx=>x.place≠p.place
def K8(r:Int)(ps:List aj):Option aj->Prop
  |none=>ps=[]
  |some p=>p∈ps/\AZ r (ps.map aj.place) p.place
theorem Db(c:Option aj):∀u∈yL c,u.oneCell'=true:=by
 cases c with
 |none=>simp[yL,Value.oneCell']
 |some p=>exact dI p
theorem Da(c:Option aj):(yL c).length=3:=by cases c<;>rfl
theorem oT{W:World}{R:List ab}{b:Nat}{r:Int}{ps:List aj}(a:ps.length<=800000):
  aq W Tryz.prog 198 [ip b] (dT b r ps::R) (β:=Option aj) (K8 r ps) (λc=>.tuple #[.agg (yL c).toArray,.bool c.isSome])
   (λc=>bX c.toList::dT b (rowOf r c) (BW ps c)::R):=by
 by_cases h:ps=[]
 ·
  subst h;exact aq.mono (yO (R:=R)) (λ_=>none) (λ_ _=>rfl) (λ_ _=>rfl) (λ_ _=>λw d=>di d)
 ·
  refine aq.mono (DN (R:=R) h a) (λp=>some p) (λ_ h=>h) (λ_ _=>rfl) (λp _=>λw d=>?_);exact pZ (l:=[]) (di d).swap
inductive Take(r:Int)(ps:List aj):List aj->Int->List aj->Prop where
  |nil:Take r ps [] r ps
  |snoc {l:List aj} {r1:Int} {ps1:List aj} {p:aj} (h:Take r ps l r1 ps1) (hp:p∈ps1) (hn:AZ r1 (ps1.map aj.place) p.place):Take r ps (l++[p]) p.row (ps1.filter λx=>x.place≠p.place)
theorem Take.step{r:Int}{ps l a:List aj}{b:Int}(h:Take r ps l b a){c:Option aj}(d:K8 b a c):Take r ps (l++c.toList) (rowOf b c) (BW a c):=by
 cases c with
 |none=>simpa[rowOf,BW]using h
 |some p=>exact h.snoc d.1 d.2
theorem oO{ps:List aj}{p:aj}(a:p∈ps):(ps.filter λx=>x.place≠p.place).length<ps.length:=by
 obtain⟨s,t,rfl⟩:=List.append_of_mem a;rw[Oe,List.filter_cons_of_neg (by simp),c9,c9,tc];have b:=HH (λx:aj=>decide (x.place≠p.place)) s;have c:=HH (λx:aj=>decide (x.place≠p.place)) t;omega
theorem PU{ps:List aj}{r:Int}{c:Option aj}(h:K8 r ps c):(BW ps c).length+c.toList.length<=ps.length:=by
 cases c with
 |none=>simp[BW]
 |some p=>have:=oO h.1;simp only[BW,Option.toList,ie];omega
theorem Take.length{r:Int}{ps l a:List aj}{c:Int}(h:Take r ps l c a):l.length+a.length<=ps.length:=by
 induction h with
 |nil=>simp
 |snoc h b d e=>have:=oO b;rw[c9,ie];omega
structure SV where
  l:List aj
  c:Option aj
  r:Int
  ps:List aj
  so:Option Addr
  sc:Nat
  n:Nat
theorem F1{W:World}{R:List ab}{b:Nat}{r:Int}{ps:List aj}(o:ps.length<=800000):
    aq W Tryz.prog 134 [ip b] (dT b r ps::R) (β:=(Option Addr×Nat)×List aj×Int) (λy=>Take r ps y.2.1 y.2.2 []) (λy=>.slice y.1.1 y.2.1.length y.1.2)
      (λy=>bL y.1 y.2.1::bX y.2.1::dT b y.2.2 []::R):=by
  (refine aq.enter Tryz.func134 Tryz.ntmps134 rfl rfl ?_);refine zt (s:=oT (R:=R) o) (h:=?_);intro c t;refine zw ?_;refine ay.aB eY rfl ?_;intro x;refine zq ?_;refine ay.gL (vs:=yL c) ah rfl rfl rfl (Da c) (Db c) zh (by simp) ?_;refine w ?_;refine VC.aR (λw q=>Holds.aZ 208 3 (di (res:=aj.res) q)) ?_
  refine VC.loop (α:=SV) (λy=>Take r ps (y.l++y.c.toList) y.r y.ps/\(y.c=none->y.ps=[])) (λy=>bL (y.so,y.sc) y.l::bX y.l::Row y.n 208 (yL y.c)::bX y.c.toList::dT b y.r y.ps::R)
    (λy=>[(0,ip b),(3,.slice y.so y.l.length y.sc),(4,ip y.n),(5,.bool y.c.isSome)]) (λy=>y.ps.length+y.c.toList.length) rfl
    ⟨[],c,rowOf r c,BW ps c,none,0,x⟩ ⟨Take.nil.step t,λh=>by subst h;exact t⟩ ?_ zB ?_
  · cases c<;>exact ae.re
  rintro⟨l,u,m,e,A,z,B⟩ ⟨k,i⟩;dsimp only at k i⊢;have j:=k.length;rw[c9]at j;refine w ?_;cases u with
  |none=>
    have:=i rfl;subst this;refine VC.aK rfl rfl (rfl) ?_;refine w ?_;refine VE.done ((A,z),l,m) rfl (by simpa using k) rfl ?_;exact ae.re
  |some p=>
    refine VC.cU rfl rfl (rfl) ?_;refine w ?_;refine VO.re 18 (.agg p.cells.toArray) rfl rfl ?_;refine zq ?_;refine ay.buildSlice (cs:=p.cells) ji rfl rfl (by simp[Value.cells]) (by simp[Value.cells]) (by decide) rfl ?_;intro nb;refine zq ?_;refine ay.cg ji rfl rfl zh zm rfl (dI p) (by simp only[maxLen];omega) zO rfl ?_;intro g f;refine w ?_;refine VO.re 21 (.agg p.cells.toArray) rfl rfl ?_;refine zq ?_;refine ay.aB eY rfl ?_;intro n5;refine zl p.cells (dI p) ?_;refine zr (s:=oT (R:=Row n5 208 p.cells::bX (some p).toList::Sl.Own 208 3 (.slice g (l.length+1) f) (l.length+1) (bg l++p.cells)::bX l::R) (b:=b) (r:=m) (ps:=e) zO) (h:=?_);intro a d;refine zw ?_;refine ay.gL (vs:=yL a) ah rfl rfl rfl (Da a) (Db a) zh (by simp) ?_;refine w ?_;have n:=PU d;refine VE.round (⟨l++[p],a,rowOf m a,BW e a,g,f,n5⟩:SV) ⟨by simpa using k.step d,λh=>by subst h;exact d⟩ (by dsimp only[Option.toList];simp only[ie];simp only[Option.toList]at n;omega) ⟨rfl,b7 rfl (by simp),rfl,b7 rfl (by rfl),trivial⟩ ?_;dsimp only;have v:List.take 0 p.cells++yL a++List.drop (0+3) p.cells=yL a:=by simp
    rw[v];unfold bL;rw[im,c9,ie];refine ae.trans (ae.re (L:=bX l::bX [p]::Sl.Own 208 3 (.slice g (l.length+1) f) (l.length+1) (bg l++p.cells)::Row n5 208 (yL a)::bX a.toList::dT b (rowOf m a) (BW e a)::R)) λw q=>?_;exact(Aw q).swap
abbrev cD:List Value:=[ii 0,i6 0]
structure aj.Of(X:eA)(p:aj):Prop where
  m:0<=p.av/\p.av<X.m
  r:0<=p.row/\p.row<((X.s*X.c:Nat):Int)
  n:p.d.data.length=128
structure K9(f:Nat->Nat->Option (List UInt8))(i:Nat)(k k':ak):Prop where
  len:k'.last.length=k.last.length
  look:∀a,k'.look a=(f i a).getD (k.look a)
  sr:∀a x,(∀d,f i a=some d->d=x)->Sr k a x->Sr k' a x
  same:(∀a,f i a=none)->k'=k
def fA(f:Nat->Nat->Option (List UInt8))(K a:Kd):Prop:=∀i,(K i=none->a i=none)/\∀k,K i=some k->∃b,a i=some b/\K9 f i k b
theorem fA.refl{f:Nat->Nat->Option (List UInt8)}{K:Kd}(h:∀i a,f i a=none):fA f K K:=λi=>⟨λq=>q,λk q=>⟨k,q,rfl,λa=>by rw[h];rfl,λa x _ q=>q,λ_=>rfl⟩⟩
theorem fA.to{f b:Nat->Nat->Option (List UInt8)}{K c:Kd}(h:fA f K c)(e:∀i a,b i a=f i a):fA b K c:=by rwa [show b=f from funext λi=>funext λa=>e i a]
theorem fA.step{f m:Nat->Nat->Option (List UInt8)}{K p:Kd}{i a:Nat}{d:List UInt8}{u:ak}(h:fA f K p)(t:p i=some u)(z:f i a=none)(n:m i a=some d)(s:∀j b,¬(j=i/\b=a)->m j b=f j b):fA m K (ez p i (u.write a d)):=λj=>by
 by_cases e:j=i
 ·
  subst e;refine⟨λq=>(by rw[(h j).1 q]at t;cases t),λk q=>?_⟩;obtain⟨v,c,g⟩:=(h j).2 k q;rw[t]at c;cases c;refine⟨_,eZ _ _ _,g.len,λb=>?_,λb x o A=>?_,λq=>by rw[q a]at n;cases n⟩
  ·
   rw[lM];split
   · rename_i e;rw[e,n];rfl
   · rename_i e;rw[g.look,s j b λq=>e q.2]
  ·
   refine Sr.write (g.sr b x (λy l=>?_) A) λe=>o d (e▸n);by_cases e:b=a
   · rw[e,z]at l;cases l
   · exact o y (by rw[s j b λq=>e q.2];exact l)
 ·
  refine⟨λq=>by rw[dH _ _ e];exact(h j).1 q,λk q=>?_⟩;obtain⟨v,c,g⟩:=(h j).2 k q;have r:∀b,m j b=f j b:=λb=>s j b λq=>e q.1;exact⟨v,by rw[dH _ _ e];exact c,g.len,λb=>by rw[r];exact g.look b,λb x o=>g.sr b x (λd l=>o d (by rw[r];exact l)),λq=>g.same λb=>by rw[<-r];exact q b⟩
theorem AN(ps:List aj)(q:aj)(k row:Int):cq (qn ps q) k row=if q.av=k/\q.row=row then some q.d.data else cq ps k row:=by
 unfold cq qn;rw[List.find?_append,List.find?_filter];by_cases h:q.av=k/\q.row=row
 ·
  rw[lam h,lcm.2 λx b=>by
   simp only[sH,aj.place,mV,decide_eq_true_eq,not_and,ne_eq,decide_not,Bool.not_eq_true',decide_eq_false_iff_not];intro c d f;exact c (Prod.ext (d.trans h.1.symm) (f.trans h.2.symm))]
  simp[sH,h]
 ·
  rw[aE h];have e:(ps.find? λa=>decide (decide (a.place≠q.place)=true/\sH k row a=true))=ps.find? (sH k row):=by
   congr 1;funext x;by_cases b:x.av=k/\x.row=row
   ·
    have:x.place≠q.place:=λe=>h ⟨(lcs Prod.fst e).symm.trans b.1,(lcs Prod.snd e).symm.trans b.2⟩;simp[sH,b,this]
   · simp[sH,b]
  rw[e];simp[sH,h]
theorem jP{l:List aj}{k row:Int}{d:List UInt8}(h:cq l k row=some d):∃p∈l,p.av=k/\p.row=row/\p.d.data=d:=by
 obtain⟨p,a,e⟩:=Option.map_eq_some_iff.1 h;have:=List.find?_some a;simp only[sH,decide_eq_true_eq]at this;exact⟨p,List.mem_of_find?_eq_some a,this.1,this.2,e⟩
theorem AO(l:List aj)(p:aj)(k row:Int):cq (l++[p]).reverse k row=if p.av=k/\p.row=row then some p.d.data else cq l.reverse k row:=by
 unfold cq;rw[TW,List.reverse_singleton,List.singleton_append,List.find?_cons];by_cases h:p.av=k/\p.row=row
 · simp[sH,h]
 · simp[sH,h]
def sI(fr:List Int)(l:List aj)(i a:Nat):Option (List UInt8):=if a=0\/gB fr i (a-1)then none else cq l.reverse i ((a-1:Nat):Int)
theorem KC{ps:List aj}(b:(ps.map aj.place).Nodup){p:aj}(a:p∈ps):cq ps p.av p.row=some p.d.data:=by
  induction ps with
  |nil=>cases a
  |cons q r c=>
    rw[pS,List.nodup_cons]at b;unfold cq;rw[List.find?_cons];by_cases h:q.av=p.av/\q.row=p.row
    · have:p=q:=by
        cases a with
        |head=>rfl
        |tail _ a=>exact cN (show q.place∈r.map aj.place from(show q.place=p.place from Prod.ext h.1 h.2)▸List.mem_map_of_mem a) b.1
      rw[this];simp[sH]
    · have:p∈r:=by
        cases a with
        |head=>exact cN ⟨rfl,rfl⟩ h
        |tail _ a=>exact a
      simp only[sH,h,decide_false]
      exact c b.2 this
theorem Az{W:World}{R:List ab}{D:aw}{K:Kd}{n c0:Nat}{ao:Option Addr}{cap:Nat}(r:Nat)(X:eA)(O:X.ok)(fr:List Int)(T:fr.length=X.m)(an:∀k row,k<X.m->row<X.s*X.c->¬gB fr k row->∃kd,K k=some kd/\1+X.s*X.c<=kd.last.length)(hq:Bq D n K c0)(l:List aj)(C:bq W R ao l)(U:∀p∈l,p.Of X)(hl:l.length<=800000)(bp:c0<=1000000):
    aq W Tryz.prog 137 [ip r,.slice ao l.length cap] (de r X fr (al X.b D::R)) (β:=aw×Kd) (λy=>Bq y.1 n y.2 (c0+l.length)/\fA (sI fr l) K y.2) (λ_=>.agg cD.toArray) (λy=>de r X fr (al X.b y.1::R)):=by
  have h4:X.s*X.c<=256*16:=mo O.s.2 O.c.2;have bo:=O.m;refine aq.enter Tryz.func137 Tryz.ntmps137 rfl rfl ?_;refine w ?_;refine zq ?_;refine ay.aB bE rfl ?_;intro G;refine w ?_
  refine VC.loop (α:=Nat) (λi=>i<=l.length) (λ_=>Row G 174 cD::de r X fr (al X.b D::R))
    (λi=>[(0,ip r),(1,.slice ao l.length cap),(4,ip G),(15,.slice ao l.length cap),(16,ii l.length),(17,ii i)]) (λi=>l.length-i) rfl 0 (c7 _) ae.re ⟨rfl,rfl,rfl,rfl,rfl,rfl,trivial⟩ ?_
  intro i hi;refine w ?_;refine zk ?_ ?_<;>intro P
  · have g:i<l.length:=by have:=cI P;omega
    obtain⟨la,rfl⟩:∃x,ao=some x:=by cases ao with|none=>have:=C.gz.nil rfl;omega|some x=>exact⟨x,rfl⟩
    have v:=U _ (fF g)
    have hr:=v.r;have Y:=v.m
    have eR:ae W (Row G 174 cD::de r X fr (al X.b D::R)) R:=ae.drop (ae.drop (ae.drop (ae.drop ae.refl)))
    refine w ?_
    refine VO.pure rfl rfl (.gY ah rfl rfl (C.gz.aR eR) (ke l i g) rfl) rfl ?_
    refine w ?_
    refine zq ?_;refine ay.aB eY rfl ?_;intro n6
    refine w ?_
    refine zq ?_
    refine ay.gL (vs:=l[i].cells) ah rfl rfl rfl rfl (dI _) zh (by simp) ?_
    refine w ?_
    refine VC.drawn [3,17] 18 [0,1,2,3,4,5,6,7,8,9,10,11,12,13,14,15,16,17,18,19] _ rfl (by kernel_rfl) (by kernel_rfl) ae.re ?_
    refine w ?_
    refine zq ?_;refine zd rfl rfl (xQ r X l[i].av) ?_;intro _ _
    rw[ky (show 0<=l[i].av/\l[i].av<X.m by omega)]
    refine w ?_
    refine VD.gF rfl rfl rfl (gx (by omega)) ?_
    refine w ?_
    refine zq ?_;refine zy rfl rfl (gn O.m O.c O.s) ?_
    intro _ _
    refine w ?_
    refine VC.aK rfl rfl (gx (by omega)) ?_
    refine w ?_
    exact VE.round (i+1) g (by omega) ⟨rfl,rfl,rfl,rfl,rfl,b7 rfl (by congr 1),trivial⟩ ae.re
  clear P;refine w ?_;refine zq ?_;refine zy rfl rfl (xi (r:=0) (by decide)) ?_;intro b _;refine w ?_
  refine VC.loop (α:=Nat×List aj) (λy=>y.1<=l.length/\y.2.length<=y.1/\(∀p∈y.2,p.Of X)/\(y.2.map aj.place).Nodup/\∀k row,cq y.2 k row=cq (l.take y.1).reverse k row) (λy=>dT b 0 y.2::Row G 174 cD::de r X fr (al X.b D::R))
    (λy=>[(0,ip r),(4,ip G),(7,ip b),(51,.slice ao l.length cap),(52,ii l.length),(53,ii y.1)]) (λy=>l.length-y.1) rfl (0,[]) ⟨c7 _,eI _,λp h=>cN h uy,List.nodup_nil,λk row=>rfl⟩ ae.re ⟨rfl,rfl,rfl,rfl,rfl,rfl,trivial⟩ ?_
  clear hi;rintro⟨i,ps⟩ ⟨hi,Z,A,M,I⟩;dsimp only at hi Z A M I⊢;refine w ?_;refine zk ?_ ?_<;>intro P
  · have g:i<l.length:=by have:=cI P;omega
    obtain⟨la,rfl⟩:∃x,ao=some x:=by cases ao with|none=>have:=C.gz.nil rfl;omega|some x=>exact⟨x,rfl⟩
    have v:=U _ (fF g)
    have hr:=v.r;have Y:=v.m
    have eR:ae W (dT b 0 ps::Row G 174 cD::de r X fr (al X.b D::R)) R:=ae.drop (ae.drop (ae.drop (ae.drop (ae.drop ae.refl))))
    refine w ?_
    refine VO.pure rfl rfl (.gY ah rfl rfl (C.gz.aR eR) (ke l i g) rfl) rfl ?_
    refine w ?_
    refine zq ?_;refine ay.aB eY rfl ?_;intro n10
    refine w ?_
    refine zq ?_
    refine ay.gL (vs:=l[i].cells) ah rfl rfl rfl rfl (dI _) zh (by simp) ?_
    refine w ?_
    have aa:=xj (W:=W) (R:=Row n10 208 l[i].cells::Row G 174 cD::de r X fr (al X.b D::R)) (b:=b) (r:=0) (ps:=ps) (p:=l[i]) ⟨by omega,by omega,v.n⟩ ((C.each _ (fF g)).aR (ae.drop (ae.drop (ae.drop (ae.drop (ae.drop ae.refl)))))) (by omega)
    refine zq ?_;refine zd rfl rfl (aa) ?_
    intro y _
    refine w ?_
    refine VE.round (i+1,qn ps ⟨l[i].av,l[i].row,⟨y.1,y.2,l[i].d.data⟩⟩) ⟨g,?_,λp bb=>?_,?_,λk row=>?_⟩ (by dsimp only;omega) ⟨rfl,rfl,rfl,rfl,rfl,b7 rfl (by congr 1),trivial⟩ ae.re
    · dsimp only
      have:=HH (λx:aj=>decide (x.place≠aj.place ⟨l[i].av,l[i].row,⟨y.1,y.2,l[i].d.data⟩⟩)) ps
      unfold qn
      rw[c9,ie];omega
    · rcases l0.1 bb with h|h
      · exact A p (te.1 h).1
      · rw[ju.1 h];exact⟨Y,hr,v.n⟩
    · dsimp only
      rw[tA]
      refine List.nodup_append.2 ⟨M.filter _,by simp,λa ha b hb e=>?_⟩
      rw[ju.1 hb]at e
      have:=(te.1 ha).2
      simp[e]at this
    · dsimp only
      rw[AN,nZ g,AO,I]
  have ag:i=l.length:=by have:=dx P;omega
  rw[ag,DK]at I;clear P;refine w ?_
  refine VC.loop (α:=(aw×Kd)×Int×List aj) (λy=>Bq y.1.1 n y.1.2 (c0+(l.length-y.2.2.length))/\y.2.2.length<=l.length/\(∀p∈y.2.2,p∈ps)/\fA (λi a=>if a=0\/gB fr i (a-1)\/((i:Int),((a-1:Nat):Int))∈y.2.2.map aj.place then none else cq ps i ((a-1:Nat):Int)) K y.1.2) (λy=>dT b y.2.1 y.2.2::Row G 174 cD::de r X fr (al X.b y.1.1::R))
    (λy=>[(0,ip r),(4,ip G),(7,ip b)]) (λy=>y.2.2.length) rfl ((D,K),0,ps) ⟨hq.mono (by dsimp only;omega),by dsimp only;omega,λp h=>h,fA.refl λi a=>?w0⟩ ae.re ⟨rfl,rfl,rfl,trivial⟩ ?_
  case w0=>
    dsimp only;split
    · rfl
    · rename_i h
      cases hw:cq ps i ((a-1:Nat):Int)with
      |none=>rfl
      |some d=>
        obtain⟨p,v,h1,h2,-⟩:=jP hw
        exact cN (.inr (.inr (fG.2 ⟨p,v,Prod.ext h1 h2⟩))) h
  clear hi Z;rintro⟨⟨D',K'⟩,row,H⟩ ⟨B,bh,t,o⟩;dsimp only at B bh t o⊢;refine w ?_;refine zq ?_;refine zd rfl rfl (oT (ps:=H) (by omega)) ?_;intro c F;refine VO.bH (λw hw=>bX.bH hw) ?_;intro bd;cases c with
  |none=>
    have h0:H=[]:=F;subst h0;refine w ?_;refine zq ?_;refine ay.aB eY rfl ?_;intro n12;refine w ?_;refine zq ?_;refine ay.gL (vs:=mw) ah rfl rfl rfl rfl (by simp[Value.oneCell']) zh (by simp) ?_;refine w ?_;apply VO.pure rfl rfl;apply af.build bE (pv:=[]) rfl;rfl;rfl;refine zq ?_;refine ay.gL (vs:=cD) ah rfl rfl rfl rfl (by simp[Value.oneCell']) zh (by simp) ?_;refine w ?_;exact VE.results1 (.inl rfl) (D',K') rfl (aL.agg (vs:=cD) ah rfl rfl zm rfl rfl) ⟨B.mono (by simp),o.to λi a=>by unfold sI;simp only[DL,uy,or_false,I]⟩ rfl ae.re
  |some p=>
    obtain⟨s,-⟩:p∈H/\_:=F;have v:=A _ (t _ s);have Y:=v.m;have hr:=v.r;have J:=v.n;have L:cq ps p.av p.row=some p.d.data:=KC M (t _ s);have g:=oO s;have E:∀q∈H.filter (λx=>x.place≠p.place),q∈ps:=λq hq=>t q (te.1 hq).1;have N:∀z:Pl,z∈(H.filter λx=>x.place≠p.place).map aj.place↔z∈H.map aj.place/\z≠p.place:=λz=>by
      rw[MF,te];simp
    have br:=HH (λx:aj=>decide (x.place≠p.place)) H;obtain⟨pm,m,u⟩:=p;dsimp only at Y hr J L;obtain⟨pm,rfl⟩:=w8 Y.1;obtain⟨m,rfl⟩:=w8 hr.1;refine w ?_;refine zq ?_;refine ay.aB eY rfl ?_;intro n12;refine w ?_;refine zq ?_;refine ay.gL (vs:=[ii pm,ii m,u.ei]) ah rfl rfl rfl rfl (by simp[Value.oneCell']) zh (by simp) ?_;refine w ?_;refine zq ?_;refine zd rfl rfl (jL r X fr T pm (by omega) m) ?_;intro _ _;by_cases Q:gB fr pm m
    · rw[ky Q]
      refine w ?_
      refine VE.round ((D',K'),(m:Int),H.filter λx=>x.place≠aj.place ⟨pm,m,u⟩) ⟨B.mono (by dsimp only;omega),by dsimp only;omega,E,o.to λi a=>?_⟩ g ⟨rfl,rfl,rfl,trivial⟩ ae.re
      dsimp only
      by_cases e:i=pm/\a-1=m
      · rw[lam (.inr (.inl (by rw[e.1,e.2];exact Q))),lam (.inr (.inl (by rw[e.1,e.2];exact Q)))]
      · have S:((i:Int),((a-1:Nat):Int))≠aj.place ⟨pm,m,u⟩:=λq=>e ⟨by have:=lcs Prod.fst q;dsimp only at this;omega,by have:=lcs Prod.snd q;dsimp only at this;omega⟩
        simp only[N,S,ne_eq,not_false_eq_true,and_true]
    · rw[gx Q]
      refine w ?_
      refine VC.drawn [] 11 [0,1,2,3,4,5,6,7,8,9,10,11,12] _ rfl (by kernel_rfl) (by kernel_rfl) ae.re ?_
      refine w ?_
      refine VD.re 87 (ii ((1+m:Nat):Int)) rfl (by congr 1) ?_
      obtain⟨kd,ba,bm⟩:=an pm m (by omega) (by omega) Q
      obtain⟨k',V,bk⟩:=(o pm).2 kd ba
      obtain⟨D2,S,bf⟩:=B.write (a:=1+m) (b:=u.data) V (by rw[bk.len];omega) J
      have ad:=lT (W:=W) (cap:=u.cap) (R:=de r X fr (bX [⟨pm,m,u⟩]::dT b m (H.filter λx=>x.place≠aj.place ⟨pm,m,u⟩)::Row G 174 cD::R)) X.b D' pm ((1+m:Nat):Int) (l:=u.data) (ao:=u.ao) (qX (oK B.cap pm) (by omega)) (.inr (aV.cG (res:=aj.res) (l:=[⟨pm,m,u⟩]) (a:=⟨pm,m,u⟩) zm (.head _) (λR hR=>aU.gz (bd _ (.head _)) hR)))
      rw[S]at ad
      refine zq ?_;refine zd rfl rfl (ad) ?_;intro _ _
      refine w ?_
      refine VE.round ((D2,ez K' pm (k'.write (1+m) u.data)),(m:Int),H.filter λx=>x.place≠aj.place ⟨pm,m,u⟩) ⟨bf.mono (by dsimp only;omega),by dsimp only;omega,E,o.step V (lam (.inr (.inr (by rw[Nat.add_sub_cancel_left];exact List.mem_map_of_mem (f:=aj.place) s)))) ?_ λj b au=>?_⟩ g ⟨rfl,rfl,rfl,trivial⟩ ae.re
      · dsimp only
        rw[Nat.add_sub_cancel_left,aE,L]
        rintro(q|q|q)
        · omega
        · exact Q q
        · exact((N _).1 q).2 rfl
      · dsimp only
        by_cases h0:b=0
        · rw[lam (.inl h0),lam (.inl h0)]
        · have S:((j:Int),((b-1:Nat):Int))≠aj.place ⟨pm,m,u⟩:=λq=>au ⟨by have:=lcs Prod.fst q;dsimp only at this;omega,by have:=lcs Prod.snd q;dsimp only at this;omega⟩
          simp only[N,S,ne_eq,not_false_eq_true,and_true]
def fO(fr:List Int)(m:Nat)(K:Kd):Kd:=λi=>if i<m/\¬gB fr i 0 then(K i).map λk=>k.settle λ_=>true else K i
theorem M8{W:World}{R:List ab}{D:aw}{K:Kd}{n c0:Nat}(r:Nat)(X:eA)(m:X.ok)(fr:List Int)(g:fr.length=X.m)(t:∀k,k<X.m->¬gB fr k 0->(K k).isSome=true)(A:Bq D n K c0):
  aq W Tryz.prog 200 [ip r,.func (.func 57) #[] #[]] (de r X fr (al X.b D::R)) (β:=aw) (λD'=>Bq D' n (fO fr X.m K) c0) (λ_=>.agg cD.toArray) (λD'=>de r X fr (al X.b D'::R)):=by
 have B:1*1<=X.s*X.c:=mo m.s.1 m.c.1;have x:=m.m;refine ze Tryz.func200 Tryz.ntmps200 ?_;refine zq ?_;refine ay.aB bE rfl ?_;intro v;refine w ?_
 refine VC.loop (α:=Nat×aw) (λy=>y.1<=X.m/\Bq y.2 n (fO fr y.1 K) c0) (λy=>Row v 174 cD::de r X fr (al X.b y.2::R))
  (λy=>[(0,ip r),(1,.func (.func 57) #[] #[]),(4,ip v),(11,ii X.m),(12,ii y.1)]) (λy=>X.m-y.1) rfl (0,D) ⟨c7 _,by rw[show fO fr 0 K=K from funext λi=>aE λh=>cN h.1 (Nat.not_lt_zero _)];exact A⟩ ae.re ⟨rfl,rfl,rfl,rfl,rfl,trivial⟩ ?_
 rintro⟨i,D'⟩ ⟨z,a⟩;dsimp only at z a⊢;refine w ?_;refine zk ?_ ?_<;>intro o
 ·
  have b:i<X.m:=by have:=cI o;omega
  refine zr (s:=jL r X fr g i b 0) (h:=?_);intro _ _;by_cases c:gB fr i 0
  ·
   have e:fO fr (i+1) K=fO fr i K:=funext λj=>by
    unfold fO;by_cases q:j=i
    · rw[q,aE λh=>h.2 c,aE λh=>h.2 c]
    ·
     have d:(j<i+1/\¬gB fr j 0)↔(j<i/\¬gB fr j 0):=⟨λh=>⟨by omega,h.2⟩,λh=>⟨by omega,h.2⟩⟩;simp only[d]
   rw[ky c];refine w ?_;exact VE.round (i+1,D') ⟨b,by rw[e];exact a⟩ (by dsimp only;omega) ⟨rfl,rfl,rfl,rfl,b7 rfl (by congr 1),trivial⟩ ae.re
  ·
   rw[gx c];refine w ?_;obtain⟨k,u⟩:=Option.isSome_iff_exists.1 (t i b c);obtain⟨D2,d,l⟩:=a.flush (show fO fr i K i=some k by unfold fO;rw[aE λh=>cN h.1 (RC _),u]);have e:fO fr (i+1) K=ez (fO fr i K) i (k.settle λ_=>true):=funext λj=>by
    unfold ez;split
    · rename_i q;rw[q];unfold fO;rw[lam ⟨Nat.lt_succ_self i,c⟩,u];rfl
    ·
     unfold fO;have d:(j<i+1/\¬gB fr j 0)↔(j<i/\¬gB fr j 0):=⟨λh=>⟨by omega,h.2⟩,λh=>⟨by omega,h.2⟩⟩;simp only[d]
   rw[<-e]at l;have f:=λR=>jY (W:=W) (R:=R) X.b D' (i:Int);rw[d]at f;refine zr (s:=f _) (h:=?_);intro _ _;refine w ?_;exact VE.round (i+1,D2) ⟨b,l⟩ (by dsimp only;omega) ⟨rfl,rfl,rfl,rfl,b7 rfl (by congr 1),trivial⟩ ae.re
 have p:i=X.m:=by have:=dx o;omega
 rw[p]at a;clear o;refine w ?_;apply VO.pure rfl rfl;apply af.build bE (pv:=[]) rfl;rfl;rfl;refine zS cD ?_;exact VE.results1 (.inl rfl) D' rfl (aL.agg (vs:=cD) ah rfl rfl zm rfl rfl) a rfl ae.re
theorem uF{W:World}{R:List ab}{D:aw}{K:Kd}{n c0:Nat}(r:Nat)(X:eA)(d:X.ok)(fr:List Int)(a:fr.length=X.m)(b:∀k,k<X.m->¬gB fr k 0->(K k).isSome=true)(e:Bq D n K c0):
  aq W Tryz.prog 138 [ip r] (de r X fr (al X.b D::R)) (β:=aw) (λD'=>Bq D' n (fO fr X.m K) c0) (λ_=>.agg cD.toArray) (λD'=>de r X fr (al X.b D'::R)):=by
 refine ze Tryz.func138 Tryz.ntmps138 ?_;refine zq ?_;refine ay.aB bE rfl ?_;intro f;refine zr (s:=M8 r X d fr a b e) (h:=?_);intro D' c;refine zS cD ?_;exact VE.results1 (.inl rfl) D' rfl (aL.agg (vs:=cD) ah rfl rfl zm rfl rfl) c rfl ae.re
end Go.Proofs.YtonpidcjpenflaaGreat
namespace Go.Sl
open Go Go.RowKit Go.MapKept
section
variable{W:World}{P:Program}{n:Nat}{H L:List ab}{f:Fr}{dst:Option Tmp}{ty_:TypeId}{pos:String}{after:Array Edge}{guard:Option (Nat×Bool)}{Q:Exit->Act->World->Prop}{N:List ab->Fr->Prop}{d:Nat}
theorem jB.u8{P:Program}{kt:TypeId}(g:P.underlying kt=some (.int .u8)):jB P kt UInt8 (λc=>ib (c.toNat:Int)) (λ_=>True):=by
 refine⟨λa b h=>?_,λw em k _=>?_,λw k _ es l=>?_,λw k _=>?_⟩
 ·
  injection h with _ h;exact UInt8.toNat_inj.1 zO
 · exact Go.MapKept.run_checkKey (P:=P) (w:=w) (kt:=kt) (k:=ib (k.toNat:Int)) g rfl em 9999
 ·
  rcases findNow_spec (d:= .int .u8) (k:=ib (k.toNat:Int)) rfl es 0 (λe p=>by obtain⟨a,_,i⟩:=l e p;rw[i];rfl)with⟨i,m⟩|⟨j,e,i,m,o⟩
  · exact .inl ⟨Go.MapKept.run_findKey (P:=P) (w:=w) (kt:=kt) g i,m⟩
  · exact .inr ⟨j,e,by rw[Go.MapKept.run_findKey (P:=P) (w:=w) (kt:=kt) g i,ou],m,o⟩
 · simp[Instr.keyThatStays,Instr.sameBits]
theorem af.cm{g:FuncId}{xs:Array Operand}{vs:List Value}(c:jo f xs.toList=some vs):af W P n H f {dst,op:= .makeFunc (.func g) xs #[],type:=ty_,pos,after,guard} (.func (.func g) vs.toArray #[]):=by
 unfold af;intro e w b h;have a:xs.map (Act.eval ⟨e,[]⟩)=vs.toArray:=by
  have:=b.args c;apply Array.ext';simpa using this
 simp[execOp,Instr.makeFunc,a]
theorem ay.gS{x:Operand}{xs:Array Operand}{ats:Array TypeId}{g:FuncId}{bnd cap:Array Value}{vs:List Value}{β:Type}{A:β->Prop}{r:β->Value}{G:β->List ab}
  (u:aD f x=some (.func (.func g) bnd cap))(m:jo f xs.toList=some vs)(o:∀a w,(callFunc g a).run P w= .ok (.enter g a) w)(spec:aq W P g (bnd.toList++vs++cap.toList) L A r G)
  (l:ae W H L)(p:Nat.blt d n=true)(h:∀y,A y->N (G y) ((d,r y)::f)):
  ay W P n {dst:=some d,op:= .call {callee:= .value x,args:=xs,argTypes:=ats},type:=ty_,pos,after,guard} Q H f N:=by
 unfold ay;intro t w c s K k;have b:xs.map (Act.eval ⟨t,[]⟩)=vs.toArray:=by
  have:=c.args m;apply Array.ext';simpa using this
 unfold aq at spec;have q:=spec w (l w s);unfold Oper.wp execOp;simp only[resolve,c.eval u,b,Deferred.ofValue,Go.invoke,Sem.run_bind,Sem.run_pure,Result.andThen_ok,o,Oper.upon];have e:bnd++vs.toArray++cap=(bnd.toList++vs++cap.toList).toArray:=by apply Array.ext';simp
 rw[e];refine Calls.mono q ?_;rintro e v ⟨y,i,rfl,j⟩;exact k _ _ (h y i) _ _ (c.put p) j
end
end Go.Sl
namespace Go.Proofs.YtonpidcjpenflaaGreat
open Go.RowKit Go.Sl
attribute [local irreducible] Sl.Own
structure aY where
  b:Nat
  id:Nat
  ev:Nat
  sf:Nat
  role:Int
  m:Nat
  c:Nat
  s:Nat
  ring:Nat
  lazy:Bool
  lost:Bool
  so:Addr
  sc:Nat
  st:List UInt8
  cur:Nat
  r:Option Addr
  w:Option Addr
  ro:Bool
  xn:Bool
  Ik:Bool
abbrev aY.sup(X:aY):ai:=⟨X.id,X.ev,X.sf,X.role,X.m,X.c,X.s,X.ring,X.lazy,X.lost,some X.so,X.sc,X.st,X.cur⟩
abbrev aY.cells(X:aY):List Value:=[ip X.b,i8 X.id,i8 X.ev,i8 X.sf,ii X.role,ii X.m,ii X.c,ii X.s,ii X.ring,.bool X.lazy,.bool X.lost,.slice (some X.so) X.st.length X.sc,ii X.cur,
  .pointer X.r,.pointer X.w,.bool X.ro,i6 0,.bool X.xn,.bool X.Ik]
structure aY.ok(X:aY):Prop where
  m:3<=X.m/\X.m<=16
  c:1<=X.c/\X.c<=16
  s:1<=X.s/\X.s<=256
  st:X.st.length=X.m
  u4:∀x∈X.st,x=1\/x=2\/x=3
  cur:X.cur<=255
abbrev dz(X:aY):ab:=Sl.Own 104 1 (.slice (some X.so) X.st.length X.sc) X.st.length (bytes X.st)
theorem jX{W:World}{R:List ab}(a:Nat)(X:aY):az W Tryz.prog 108 [ip a] (Row a 102 X.cells::R) (ii X.m) (Row a 102 X.cells::R):=by
 refine ze Tryz.func108 Tryz.ntmps108 ?_;exact VE.ax rfl rfl ae.refl
theorem Fh{W:World}{R:List ab}(a:Nat)(X:aY)(b:X.ok):az W Tryz.prog 94 [ip a] (Row a 102 X.cells::R) (ii ((X.s*X.c:Nat):Int)) (Row a 102 X.cells::R):=by
 (refine aq.enter Tryz.func94 Tryz.ntmps94 rfl rfl ?_);refine zt (s:=gn b.m b.c b.s) (h:=?_);intro _ _;refine w ?_;exact VE.ax rfl rfl ae.refl
theorem Fj{W:World}{R:List ab}(v:Value):az W Tryz.prog 95 [v] R (ii ((0:Nat):Int)) R:=by
 refine ze Tryz.func95 Tryz.ntmps95 ?_;exact VE.ax rfl rfl ae.refl
theorem CM{W:World}{R:List ab}(a:Nat)(X:aY)(b:X.ok):az W Tryz.prog 96 [ip a] (Row a 102 X.cells::R) (ii ((X.cur*X.c:Nat):Int)) (Row a 102 X.cells::R):=by
 have h:X.cur*X.c<=255*16:=mo b.cur b.c.2;refine ze Tryz.func96 Tryz.ntmps96 ?_;refine VC.quiet rfl (by kernel_rfl) (by kernel_rfl) ?_;refine w ?_;exact VE.ax rfl rfl ae.refl
theorem dz.gz{W:World}{H:List ab}{X:aY}(m:dz X∈H):aV W H 1 (some X.so) X.st.length (bytes X.st):=aV.own (aQ _) m (by simp) (by simp)
theorem kR{W:World}{R:List ab}(a:Nat)(X:aY)(k:Nat)(b:k<X.st.length):az W Tryz.prog 121 [ip a,ii k] (Row a 102 X.cells::dz X::R) (.bool (decide (X.st[k]≠2))) (Row a 102 X.cells::dz X::R):=by
 have hb1:aV W (Row a 102 X.cells::dz X::R) 1 (some X.so) X.st.length (bytes X.st):=dz.gz zm;refine ze Tryz.func121 Tryz.ntmps121 ?_;exact VE.ax rfl (by congr 1;rw[Bool.eq_iff_iff,bne_iff_ne,decide_eq_true_iff];exact not_congr ⟨λh=>UInt8.toNat_inj.1 (show X.st[k].toNat=2 by omega),λh=>by rw[h];rfl⟩) ae.refl
def nC(X:aY)(x:UInt8):Int:=if x=1 then-1 else if x=2 then 0 else((X.cur*X.c:Nat):Int)
def bU(X:aY):List Int:=X.st.map (nC X)
theorem TZ:jB Tryz.prog 104 UInt8 (λc=>ib (c.toNat:Int)) (λ_=>True):=jB.u8 (by kernel_rfl)
theorem Hv:Tryz.prog.underlying 168=some (.map 104 167):=by kernel_rfl
abbrev TU(g:FuncId):Value:= .func (.func g) #[] #[]
def Jf(x:UInt8):FuncId:=if x=1 then 94 else if x=2 then 95 else 96
def TO(X:aY)(x:UInt8):Nat:=if x=1 then X.s*X.c else if x=2 then 0 else X.cur*X.c
theorem O8(x:UInt8):∀a w,(callFunc (Jf x) a).run Tryz.prog w= .ok (.enter (Jf x) a) w:=by
 unfold Jf;split
 · intro _ _;simp
 ·
  split
  · intro _ _;simp
  · intro _ _;simp
theorem O9{W:World}{R:List ab}(a:Nat)(X:aY)(b:X.ok)(x:UInt8):az W Tryz.prog (Jf x) [ip a] (Row a 102 X.cells::R) (ii (TO X x:Nat)) (Row a 102 X.cells::R):=by
 unfold Jf TO;split
 · exact Fh a X b
 ·
  split
  · exact Fj _
  · exact CM a X b
theorem rH{W:World}{R:List ab}(a r:Nat)(X:aY)(b:X.ok)(Y:eA)(y:X.r=ik r)(D:Y.m=X.m)(fr:List Int)(B:fr.length=X.m):
  az W Tryz.prog 59 [ip a] (Row a 102 X.cells::dz X::de r Y fr R) (.tuple #[]) (Row a 102 X.cells::dz X::de r Y (bU X) R):=by
 refine ze Tryz.func59 Tryz.ntmps59 ?_;refine zq ?_;refine ay.lA (λc:UInt8=>Value.int .u8 (c.toNat:Int)) (λ_=>True) rfl ?_;intro j;refine zw ?_;refine ay.dR (k:=(1:UInt8)) Hv TZ trivial rfl rfl rfl zh ?_;refine zw ?_;refine ay.dR (k:=(2:UInt8)) Hv TZ trivial rfl rfl rfl zh ?_;refine zw ?_;refine ay.dR (k:=(3:UInt8)) Hv TZ trivial rfl rfl rfl zh ?_;refine w ?_;have u:∀x:UInt8,x=1\/x=2\/x=3->getD (iw (iw (iw [] (1:UInt8) (TU 94)) 2 (TU 95)) 3 (TU 96)) x=some (TU (Jf x)):=by
  rintro x (rfl|rfl|rfl)<;>rfl
 generalize iw (iw (iw [] (1:UInt8) _) 2 _) 3 _=l at*;have g:(bU X).length=X.m:=by unfold bU;rw[ew];exact b.st
 have z:=b.st
 refine VC.loop (α:=Nat) (λi=>i<=X.m) (λi=>db (λc:UInt8=>Value.int .u8 (c.toNat:Int)) (λ_=>True) j l::Row a 102 X.cells::dz X::de r Y ((bU X).take i++fr.drop i) R)
  (λi=>[(0,ip a),(2,.map (some j)),(11,.slice (some X.so) X.st.length X.sc),(12,ii X.st.length),(13,ii i)]) (λi=>X.m-i) rfl 0 (c7 _) (by simp only[KP,BI,E6];exact ae.re) ⟨rfl,rfl,rfl,rfl,rfl,trivial⟩ ?_
 intro i C;have v:=b.m;have hb1:aV W (db (λc:UInt8=>Value.int .u8 (c.toNat:Int)) (λ_=>True) j l::Row a 102 X.cells::dz X::de r Y ((bU X).take i++fr.drop i) R) 1 (some X.so) X.st.length (bytes X.st):=dz.gz zm;refine w ?_;refine zk ?_ ?_<;>intro q
 ·
  have p:i<X.st.length:=by have:=cI q;omega
  have t:=b.u4 _ (fF p);refine w ?_;refine zx [11] 12 [0,1,2,3,4,5,6,7,8,9,10,11,12] _ ?_;refine w ?_;refine VD.take rfl rfl rfl (af.jT (k:=X.st[i]) Hv TZ trivial (λw=>by simp;rfl) rfl rfl zm) rfl ?_;rw[u _ t];refine zw ?_;refine ay.call rfl rfl (O8 _) (O9 (R:=db (λc:UInt8=>Value.int .u8 (c.toNat:Int)) (λ_=>True) j l::dz X::de r Y ((bU X).take i++fr.drop i) R) a X b X.st[i]) ae.re rfl ?_;intro _ _;refine⟨ae.re,?_⟩;refine w ?_;refine VD.re 21 (ip r) rfl (by rw[y]) ?_;refine zr (s:=Nk r Y ((bU X).take i++fr.drop i) (by rw[c9,j1,CC,g];omega) i zO _ (TO X X.st[i]:Nat) zO) (h:=?_);intro _ _;refine w ?_;refine VE.round (i+1) zO zO ⟨rfl,rfl,rfl,rfl,b7 rfl (by congr 1),trivial⟩ ?_;have m:i<(bU X).length:=by omega
  have A:(if(((X.st[i].toNat:Nat):Int) != 1)=true then((TO X X.st[i]:Nat):Int)else-1)=(bU X)[i]:=by
   rw[show(bU X)[i]=nC X X.st[i]by simp[bU]];unfold nC TO;rcases t with e|e|e<;>rw[e]<;>rfl
  rw[A,nZ m,lx,JB _ _ (by rw[j1];omega),j1,Nat.min_eq_left zO,BH,E5 (show i<fr.length by omega),List.set_cons_zero];exact ae.re
 have o:i=X.m:=by have:=dx q;omega
 subst o;rw[qy zO,List.drop_of_length_le zO,mn];refine w ?_;exact VE.b9 rfl rfl ae.re
def aY.mL(X:aY)(k:Int):ai:={X.sup with role:=k}
theorem CQ{W:World}{R:List ab}{D:aw}{K:Kd}{kd:ak}{n c0:Nat}(a:Nat)(X:aY)(m:Bq D n K c0)(q:c0<=900000000)(k:Nat)(r:K k=some kd)(t:0<kd.last.length)(e:(X.mL k).fit)(c:(X.mL k).enc.1=0)(b:(X.mL k).enc.2.length=128):
  aq W Tryz.prog 56 [ip a,ii k] (Row a 102 X.cells::dz X::al X.b D::R) (β:=aw) (λD'=>Bq D' n (ez K k (kd.write 0 (X.mL k).enc.2)) (c0+1)) (λ_=>i6 0) (λD'=>Row a 102 X.cells::dz X::al X.b D'::R):=by
 refine ze Tryz.func56 Tryz.ntmps56 ?_;refine zq ?_;refine ay.aB jy rfl ?_;intro v;refine zl X.sup.cells (cB _) ?_;refine zt (s:=x6 (X.mL k) e (dz.gz (X:=X) zm)) (h:=?_);intro x _;rw[c,b];refine w ?_;have p:b8 x (X.mL k).enc.2=Sl.Own 5 1 (.slice x.1 128 x.2) 128 (bytes (X.mL k).enc.2):=by unfold b8;rw[b]
 rw[p];refine VO.bH (λw u=>u.bn (.head _)) ?_;intro i;obtain⟨D2,o,j⟩:=m.write (a:=0) r t b;have g:=lT (W:=W) (cap:=x.2) (R:=Sl.Own 5 1 (.slice x.1 128 x.2) 128 (bytes (X.mL k).enc.2)::Row a 102 X.cells::dz X::R) X.b D k ((0:Nat):Int) (l:=(X.mL k).enc.2) (ao:=x.1) (qX (oK m.cap k) zO) (.inr (by rw[b];exact aV.own (aQ _) zm (by simp[b]) i));rw[o,b]at g;refine zr (s:=g) (h:=?_);intro _ _;refine w ?_;exact VE.done D2 rfl j rfl ae.re
end Go.Proofs.YtonpidcjpenflaaGreat
namespace Go.Proofs.YtonpidcjpenflaaGreat
open Go.RowKit Go.Sl
attribute [local irreducible] Sl.Own
structure iS(X:aY)(K:Kd)(n:Nat):Prop where
  ok:X.ok
  n:n=X.m+1
  ev:X.ev<4611686018427387904
  fit:∀k:Nat,k<=X.m->(aY.mL {X with ev:=X.ev+1} k).fit
  enc:∀k:Nat,k<=X.m->(aY.mL {X with ev:=X.ev+1} k).enc.1=0
  len:∀k:Nat,k<=X.m->(aY.mL {X with ev:=X.ev+1} k).enc.2.length=128
  jr:∃kd,K X.m=some kd/\0<kd.last.length
  is:∀i (h:i<X.st.length),X.st[i]≠2->∃kd,K i=some kd/\0<kd.last.length
theorem Sx:cH Tryz.prog 128 127 .nilFunc 1 8:=⟨by kernel_rfl,by kernel_rfl,rfl,by simp[Value.cells,Value.oneCell']⟩
abbrev jz(a:Nat):Value:= .func (.func 56) #[ip a] #[]
abbrev fD(b:Nat):Value:= .func (.func 57) #[ip b] #[]
abbrev aY.next(X:aY):aY:={X with ev:=X.ev+1}
abbrev aY.sure(X:aY):aY:={X with ev:=X.ev+1,sf:=X.ev+1}
abbrev aY.told(X:aY):aY:={X with ev:=X.ev+1,sf:=X.ev+1,xn:=if X.lost=true then false else X.xn}
def kY(b:List UInt8):Nat->ak->ak
  |0,k=>k
  |1,k=>k.write 0 b
  |_,k=>(k.write 0 b).settle λ_=>true
theorem qh(b:List UInt8)(j:Nat)(k:ak):(kY b j k).last.length=k.last.length:=by
 unfold kY;split
 · rfl
 · rfl
 · unfold ak.settle;rw[iJ];rfl
abbrev aY.bytesOf(X:aY)(i:Nat):List UInt8:=(X.mL i).enc.2
def mh(X:aY)(j k:Nat)(K:Kd):Kd:=λi=>if i<X.m/\X.st.getD i 2≠2 then(K i).map (kY (X.bytesOf i) (if i<k then j+1 else j))else K i
theorem Ir(X:aY)(j:Nat)(K:Kd):mh X j X.m K=mh X (j+1) 0 K:=funext λi=>by
 unfold mh;by_cases h:i<X.m/\X.st.getD i 2≠2
 · rw[lam h,lam h,lam h.1,aE (Nat.not_lt_zero i)]
 · rw[aE h,aE h]
theorem Iu(X:aY)(K:Kd):mh X 0 0 K=K:=funext λi=>by
 unfold mh;split
 · rw[aE (Nat.not_lt_zero i)];cases K i<;>rfl
 · rfl
theorem Is(X:aY){j k:Nat}(K:Kd)(h:¬(k<X.m/\X.st.getD k 2≠2)):mh X j (k+1) K=mh X j k K:=funext λi=>by
 unfold mh;by_cases q:i=k
 · subst q;rw[aE h,aE h]
 ·
  by_cases e:i<k
  · rw[lam e,lam (by omega:i<k+1)]
  · rw[aE e,aE (by omega:¬i<k+1)]
theorem It(X:aY){j k:Nat}{K:Kd}{kd:ak}(h:k<X.m/\X.st.getD k 2≠2)(a:K k=some kd):mh X j k K k=some (kY (X.bytesOf k) j kd)/\mh X j (k+1) K=ez (mh X j k K) k (kY (X.bytesOf k) (j+1) kd):=by
 refine⟨by unfold mh;rw[lam h,aE (RC k),a];rfl,funext λi=>?_⟩;unfold ez;by_cases q:i=k
 · subst q;rw[lam rfl];unfold mh;rw[lam h,lam (Nat.lt_succ_self i),a];rfl
 ·
  rw[aE q];unfold mh;by_cases e:i<k
  · rw[lam e,lam (by omega:i<k+1)]
  · rw[aE e,aE (by omega:¬i<k+1)]
def jF(X:aY)(K:Kd):Kd:=mh X.next 2 0 λi=>if i=X.m then(K i).map (kY (X.next.bytesOf i) 2)else K i
theorem lS{W:World}{R:List ab}{D:aw}{K:Kd}{n c0:Nat}(a r:Nat)(X:aY)(Y:eA)(H:iS X K n)(ad:X.ro=false)(hr:X.r=ik r)(hm:Y.m=X.m)(fr:List Int)(hf:fr.length=X.m)(hq:Bq D n K c0)(bb:c0<=1000000):
  aq W Tryz.prog 122 [ip a] (Row a 102 X.cells::dz X::de r Y fr (al X.b D::R)) (β:=aw) (λD'=>Bq D' n (jF X K) (c0+40)) (λ_=>.tuple #[]) (λD'=>Row a 102 X.told.cells::dz X::de r Y (bU X) (al X.b D'::R)):=by
 have I:=H.ok;have bd:=H.ev;have ba:=I.m;have bf:=I.st;refine ze Tryz.func122 Tryz.ntmps122 ?_;rw[ad];refine w ?_;refine VC.aK rfl rfl (gx zO) ?_;refine w ?_;have e1:X.cells.set (0+1+1) (i8 (IntKind.u64.wrap ((X.ev:Int)+1)))=X.next.cells:=by
  rw[show((X.ev:Int)+1)=((X.ev+1:Nat):Int)by omega,dB zO];rfl
 rw[e1,ad];have hn:=H.n
 have B:∀(R:List ab)(D':aw)(l:Kd)(c:Nat)(kd:ak),Bq D' n l c->c<=900000000->∀k:Nat,k<=X.m->l k=some kd->0<kd.last.length->aq W Tryz.prog 56 [ip a,ii k] (Row a 102 X.next.cells::dz X::al X.b D'::R) (β:=aw) (λD2=>Bq D2 n (ez l k (kd.write 0 (X.next.bytesOf k))) (c+1)) (λ_=>i6 0) (λD2=>Row a 102 X.next.cells::dz X::al X.b D2::R):=
  λR D' l c kd b f k C m hs=>CQ a X.next b f k m hs (H.fit k C) (H.enc k C) (H.len k C)
 have v:∀(R:List ab)(D':aw)(l:Kd)(c:Nat)(kd:ak),Bq D' n l c->∀k:Nat,l k=some kd->aq W Tryz.prog 57 [ip X.b,ii k] (al X.b D'::R) (β:=aw) (λD2=>Bq D2 n (ez l k (kd.settle λ_=>true)) c) (λ_=>i6 0) (λD2=>al X.b D2::R):=λR D' l c kd b k C=>by
  have h:=jY (W:=W) (R:=R) X.b D' (k:Int);obtain⟨D2,S,p⟩:=b.flush C;rw[S]at h;exact aq.mono h (λ_=>D2) (λ_ _=>p) (λ_ _=>rfl) (λ_ _=>ae.refl)
 have L:∀u∈[jz a,fD X.b],u.oneCell'=true:=by simp[Value.oneCell']
 have T:∀i,i<2->∃g bnd,[jz a,fD X.b][i]?=some (.func (.func g) bnd #[])/\(∀a w,(callFunc g a).run Tryz.prog w= .ok (.enter g a) w)/\
   ∀(R:List ab)(D':aw)(l:Kd)(c:Nat)(kd:ak),Bq D' n l c->c<=900000000->∀k:Nat,k<=X.m->l k=some (kY (X.next.bytesOf k) i kd)->0<kd.last.length->aq W Tryz.prog g (bnd.toList++[ii k]++[]) (Row a 102 X.next.cells::dz X::al X.b D'::R) (β:=aw) (λD2=>Bq D2 n (ez l k (kY (X.next.bytesOf k) (i+1) kd)) (c+1)) (λ_=>i6 0) (λD2=>Row a 102 X.next.cells::dz X::al X.b D2::R):=λi hi=>by
  rcases(show i=0\/i=1 by omega)with rfl|rfl
  · exact⟨_,_,rfl,λ_ _=>by simp,λR D' l c kd b f k C m hs=>B R D' l c kd b f k C m hs⟩
  · exact⟨_,_,rfl,λ_ _=>by simp,λR D' l c kd b f k C m hs=>fX ae.re (aq.mono (v (Row a 102 X.next.cells::dz X::R) D' l c _ b k m) (λy=>y) (λ_ h=>h.mono (Nat.le_succ c)) (λ_ _=>rfl) (λ_ _=>ae.re))⟩
 clear B v;obtain⟨P,U,V⟩:=H.jr;refine w ?_;refine VO.pure rfl rfl (af.cm rfl) rfl ?_;refine w ?_;refine VO.pure rfl rfl (af.cm rfl) rfl ?_;refine w ?_;refine zq ?_;refine ay.bP Sx rfl rfl (by simp[Value.oneCell']) (by decide) rfl ?_;intro nb;refine w ?_
 refine VC.loop (α:=Nat×aw) (λy=>y.1<=2/\Bq y.2 n (ez K X.m (kY (X.next.bytesOf X.m) y.1 P)) (c0+y.1)) (λy=>Row nb 127 [jz a,fD X.b]::Row a 102 X.next.cells::dz X::de r Y fr (al X.b y.2::R))
  (λy=>[(0,ip a),(51,.slice (ik nb) 2 2),(52,ii 2),(53,ii y.1)]) (λy=>2-y.1) rfl (0,D) ⟨c7 _,by show Bq D n (ez K X.m P) c0;rw[pz U];exact hq⟩ ae.re ⟨rfl,rfl,rfl,rfl,trivial⟩ ?_
 rintro⟨i,D'⟩ ⟨hi,b⟩;dsimp only at hi b⊢;have hr1:aV W (Row nb 127 [jz a,fD X.b]::Row a 102 X.next.cells::dz X::de r Y fr (al X.b D'::R)) 1 (ik nb) 2 [jz a,fD X.b]:=aV.row L (.head _) rfl;refine w ?_;refine zk ?_ ?_<;>intro f
 ·
  have o:i<2:=by have:=cI f;omega
  clear f;obtain⟨g,bnd,hg,N,t⟩:=T i o;have hv:[jz a,fD X.b][i]'(by simpa using o)= .func (.func g) bnd #[]:=CD ((fL _).symm.trans hg);refine w ?_;rw[hv];refine zr (s:=jX a X.next) (h:=?_);intro _ _;refine zw ?_;refine ay.gS rfl rfl N (t _ D' _ _ P b zO X.m (eI _) (eZ _ _ _) V) ae.re rfl ?_;intro D2 p;rw[show ez (ez K X.m (kY (X.next.bytesOf X.m) i P)) X.m (kY (X.next.bytesOf X.m) (i+1) P)=ez K X.m (kY (X.next.bytesOf X.m) (i+1) P)from funext λj=>by unfold ez;split<;>rfl]at p;refine w ?_;exact VE.round (i+1,D2) ⟨o,p⟩ (by dsimp only;omega) ⟨rfl,rfl,rfl,b7 rfl (by congr 1),trivial⟩ ae.re
 have an:i=2:=by have:=dx f;omega
 subst an;obtain⟨z,M⟩:∃z:Kd,z=λi=>if i=X.m then(K i).map (kY (X.next.bytesOf i) 2)else K i:=⟨_,rfl⟩;rw[show ez K X.m (kY (X.next.bytesOf X.m) 2 P)=z from M▸funext λj=>by
  unfold ez;by_cases q:j=X.m
  · rw[lam q,lam q,q,U];rfl
  · rw[aE q,aE q]]at b
 have ag:∀i (h:i<X.st.length),X.st[i]≠2->∃kd,z i=some kd/\0<kd.last.length:=λi h F=>by
  obtain⟨kd,e,q⟩:=H.is i h F;exact⟨kd,by rw[M];dsimp only;rw[aE zO];exact e,q⟩
 clear f;refine w ?_;refine VO.pure rfl rfl (af.cm rfl) rfl ?_;refine w ?_;refine VO.pure rfl rfl (af.cm rfl) rfl ?_;refine w ?_;refine VO.aR (H':=Row a 102 X.next.cells::dz X::de r Y fr (al X.b D'::R)) ae.re ?_;refine zq ?_;refine ay.bP Sx rfl rfl (by simp[Value.oneCell']) (by decide) rfl ?_;intro Q;refine w ?_
 refine VC.loop (α:=Nat×aw) (λy=>y.1<=2/\Bq y.2 n (mh X.next y.1 0 z) (c0+2+y.1*16)) (λy=>Row Q 127 [jz a,fD X.b]::Row a 102 X.next.cells::dz X::de r Y fr (al X.b y.2::R))
  (λy=>[(0,ip a),(77,.slice (ik Q) 2 2),(78,ii 2),(79,ii y.1)]) (λy=>2-y.1) rfl (0,D') ⟨c7 _,by rw[Iu];exact b.mono zO⟩ ae.re ⟨rfl,rfl,rfl,rfl,trivial⟩ ?_
 clear hi b hr1;rintro⟨j,E⟩ ⟨hj,d⟩;dsimp only at hj d⊢;have hr1:aV W (Row Q 127 [jz a,fD X.b]::Row a 102 X.next.cells::dz X::de r Y fr (al X.b E::R)) 1 (ik Q) 2 [jz a,fD X.b]:=aV.row L (.head _) rfl;refine w ?_;refine zk ?_ ?_<;>intro f
 ·
  have o:j<2:=by have:=cI f;omega
  clear f;obtain⟨g,bnd,hg,N,t⟩:=T j o;have hv:[jz a,fD X.b][j]'(by simpa using o)= .func (.func g) bnd #[]:=CD ((fL _).symm.trans hg);refine w ?_;rw[hv];refine w ?_
  refine VC.loop (α:=Nat×aw) (λy=>y.1<=X.m/\Bq y.2 n (mh X.next j y.1 z) (c0+2+j*16+y.1)) (λy=>Row Q 127 [jz a,fD X.b]::Row a 102 X.next.cells::dz X::de r Y fr (al X.b y.2::R))
   (λy=>[(0,ip a),(6,.func (.func g) bnd #[]),(77,.slice (ik Q) 2 2),(78,ii 2),(79,ii j),(88,ii X.m),(89,ii y.1)]) (λy=>X.m-y.1) rfl (0,E) ⟨c7 _,d⟩ ae.re ⟨rfl,rfl,rfl,rfl,rfl,rfl,rfl,trivial⟩ ?_
  clear d hr1;rintro⟨k,E⟩ ⟨C,d⟩;dsimp only at C d⊢;refine w ?_;refine zk ?_ ?_<;>intro f
  ·
   have O:k<X.m:=by have:=cI f;omega
   clear f;have G:k<X.st.length:=by omega
   refine zr (s:=kR a X.next k G) (h:=?_);intro _ _;by_cases F:X.st[k]≠2
   ·
    rw[ky (show X.next.st[k]≠2 from F)];refine zw ?_;obtain⟨kd,m,au⟩:=ag k G F;obtain⟨f1,f2⟩:=It X.next (j:=j) (K:=z) ⟨O,by show X.st.getD k 2≠2;rw[List.getD_eq_getElem?_getD,fL G];exact F⟩ m;refine ay.gS rfl rfl N (t _ E _ _ kd d zO k zO f1 au) ae.re rfl ?_;intro D2 p;rw[<-f2]at p;refine w ?_;exact VE.round (k+1,D2) ⟨O,p⟩ (by dsimp only;omega) ⟨rfl,rfl,rfl,rfl,rfl,rfl,b7 rfl (by congr 1),trivial⟩ ae.re
   ·
    rw[gx (show ¬X.next.st[k]≠2 from F)];refine w ?_;exact VE.round (k+1,E) ⟨O,by dsimp only;rw[Is X.next z λh=>h.2 (by show X.st.getD k 2=2;rw[List.getD_eq_getElem?_getD,fL G];exact Decidable.of_not_not F)];exact d.mono zO⟩ (by dsimp only;omega) ⟨rfl,rfl,rfl,rfl,rfl,rfl,b7 rfl (by congr 1),trivial⟩ ae.re
  have av:k=X.m:=by have:=dx f;omega
  subst av;rw[show mh X.next j X.m z=mh X.next (j+1) 0 z from Ir X.next j z]at d;clear f;refine w ?_;exact VE.round (j+1,E) ⟨o,d.mono (by dsimp only;omega)⟩ (by dsimp only;omega) ⟨rfl,rfl,rfl,b7 rfl (by congr 1),trivial⟩ ae.re
 obtain rfl:j=2:=by have:=dx f;omega
 clear f;refine w ?_;have S:X.next.cells.set (0+1+2) (i8 X.next.ev)=X.sure.cells:=rfl;rw[S];have A:∀(R:List ab)(Z:aY),Z.st=X.st->Z.so=X.so->Z.sc=X.sc->Z.m=X.m->Z.c=X.c->Z.s=X.s->Z.cur=X.cur->Z.r=X.r->az W Tryz.prog 59 [ip a] (Row a 102 Z.cells::dz X::de r Y fr R) (.tuple #[]) (Row a 102 Z.cells::dz X::de r Y (bU X) R):=λR Z h1 F h3 h4 h5 h6 h7 h8=>by
  have h:=rH (W:=W) (R:=R) a r Z ⟨h4▸I.m,h5▸I.c,h6▸I.s,by rw[h1,h4];exact I.st,by rw[h1];exact I.u4,by rw[h7];exact I.cur⟩ Y (h8.trans hr) (hm.trans h4.symm) fr (hf.trans h4.symm);have e1:dz Z=dz X:=by unfold dz;rw[h1,F,h3]
  have S:bU Z=bU X:=by unfold bU;rw[h1];apply HF;intro x _;unfold nC;rw[h7,h5]
  rw[e1,S]at h;exact h
 have J:Bq E n (jF X K) (c0+40):=by unfold jF;rw[<-M];exact d.mono zO
 cases aa:X.lost
 ·
  refine w ?_;have e3:X.sure=X.told:=by simp only[aY.told,aY.sure,aa,Bool.false_eq_true,if_false]
  rw[e3];refine zr (s:=A _ X.told rfl rfl rfl rfl rfl rfl rfl rfl) (h:=?_);intro _ _;refine w ?_;exact VE.qv E rfl J rfl ae.re
 ·
  refine w ?_;have e3:X.sure.cells.set (0+17) (.bool false)=X.told.cells:=by simp[aY.told,aY.sure,aY.cells,aa]
  rw[e3];refine zr (s:=A _ X.told rfl rfl rfl rfl rfl rfl rfl rfl) (h:=?_);intro _ _;refine w ?_;exact VE.qv E rfl J rfl ae.re
end Go.Proofs.YtonpidcjpenflaaGreat
