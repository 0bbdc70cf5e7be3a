import Derived.Test.YtonpidcjpenflaaGreatM11
set_option maxRecDepth 8000
set_option maxHeartbeats 16000000
set_option linter.unusedVariables false
set_option linter.unusedSimpArgs false
set_option linter.unusedSectionVars false
set_option linter.defProp false
namespace Go.Sl
open Go Go.RowKit
section
variable{W:World}{P:Program}{n:Nat}{c:Code}{Q:Exit->Act->World->Prop}{H R:List ab}{f:Fr}{mv r:List Nat}{tl i x d e:Nat}{ty_:TypeId}{pos:String}{after:Array Edge}{guard:Option (Nat×Bool)}{X:Nat->ab}{vx:Nat->Value}
theorem VX.TA{J:Oper}{op:Op}{v:Value}(I:(aG c)[i]?=some {dst:=some e,op,type:=ty_,pos,after,guard})(z:Nat.beq i x=false)(G:mv.contains i=true)(F:gA (aG c) guard f=some true)
  (B:af W P n H f {dst:=some e,op,type:=ty_,pos,after,guard} v)(A:(aG c)[x]?=some J)(D:dG W P n J d X vx)(u:ae W H R)(E:Nat.blt e n=true)(m:look f d=none)(y:Nat.beq e d=false)(h:VX W P n c R mv tl x d X vx r Q H ((e,v)::f)):VX W P n c R mv tl x d X vx (i::r) Q H f:=by
 have p:i≠x:=by intro q;subst q;simp at z
 unfold VX at h;have second:∀b t w,bS n ((d,vx b)::f) t->Holds W (X b::H) w->fo P (aG c).toArray Q (Holds W R) mv tl (i::r.erase x) ⟨t,[]⟩ w:=by
  intro b t w j l;have g:=j.under m;refine .inl ⟨by unfold BK;rw[G];rfl,?_⟩;unfold wpOp;simp only[List.getElem?_toArray,I];rw[lam (g.wanted (o:={dst:=some e,op,type:=ty_,pos,after,guard}) F)];have C:af W P n (X b::H) ((d,vx b)::f) {dst:=some e,op,type:=ty_,pos,after,guard} v:=by unfold af at B⊢;exact λt w j l=>B t w (j.under m) l.tail
  have:=ay.pure (Q:=eF Q) (N:=λH' k=>H'=X b::H/\k=(e,v)::(d,vx b)::f) C E ⟨rfl,rfl⟩;unfold ay at this;refine .inl (this t w j l _ ?_);rintro H' k ⟨rfl,rfl⟩ t' s g a;exact⟨λ_=>u _ a.tail,h.2 b t' s (g.swap y) a⟩
 unfold VX;refine⟨λt w j l=>.inr (.inl ⟨p,G,?_,?_⟩),λb t w j l=>by rw[List.erase_cons_tail (by simpa using p)];exact second b t w j l⟩
 ·
  unfold wpOp;simp only[List.getElem?_toArray,I];rw[lam (j.wanted (o:={dst:=some e,op,type:=ty_,pos,after,guard}) F)];have:=ay.pure (Q:=eF Q) (N:=λH' k=>H'=H/\k=(e,v)::f) B E ⟨rfl,rfl⟩;unfold ay at this;refine .inl (this t w j l _ ?_);rintro H' k ⟨rfl,rfl⟩ t' s g a;exact⟨u _ a,h.1 t' s g a⟩
 ·
  unfold wpOp;simp only[List.getElem?_toArray,A];rw[lam (by unfold Region.wanted;rw[D.guard])];have:=D.run (eF Q) H f (λH' k=>∃b,H'=X b::H/\k=(d,vx b)::f) (λb=>⟨b,rfl,rfl⟩);unfold ay at this;refine .inl (this t w j l _ ?_);rintro H' k ⟨b,rfl,rfl⟩ t' s g a;exact⟨u _ a.tail,second b t' s g a⟩
end
end Go.Sl
namespace Go.Proofs.YtonpidcjpenflaaGreat
open Go.RowKit Go.Sl
attribute [local irreducible] Sl.Own
structure qJ where
  b:Nat
  a:Option Addr
  rows:Nat
  m:Nat
  c:Nat
  s:Nat
abbrev qJ.cells(X:qJ):List Value:=[ip X.b,.pointer X.a,ii X.rows,ii X.m,ii X.c,ii X.s]
abbrev cn(e:Int)(d:Value)(o:Int):List Value:=[i6 e,d,ii o]
abbrev dh:Value:= .slice none 0 0
structure mz where
  kind:UInt8
  slot:Int
  n:Int
  block:Int
  po:Option Addr
  pl:Nat
  pc:Nat
  ko:Option Addr
  kl:Nat
  kc:Nat
abbrev mz.cells(A:mz):List Value:=[ib (A.kind.toNat:Int),ii A.slot,ii A.n,ii A.block,.slice A.po A.pl A.pc,.slice A.ko A.kl A.kc]
section
variable{W:World}{R H:List ab}
theorem pR(e:Nat):az W Tryz.prog 19 [i6 e] R (.agg (cn e dh 0).toArray) R:=by
 refine ze Tryz.func19 Tryz.ntmps19 ?_;refine zq ?_;refine ay.aB eG rfl ?_;intro a;refine w ?_;refine VO.pure rfl rfl (af.build eG rfl (show aC _ _ _=some (cn e dh 0)by simp[aC,bR,Value.cells])) rfl ?_;refine zS (cn e dh 0) ?_;exact VE.results1 (.inl rfl) () rfl (aL.agg (vs:=cn e dh 0) ah rfl rfl zm rfl rfl) trivial rfl (ae.drop ae.refl)
abbrev GY(f:FuncId)(a:Bool):Value:= .agg #[.func (.func f) #[] #[],.bool a]
theorem sL:jB Tryz.prog 5 UInt8 (λc=>ib (c.toNat:Int)) (λ_=>True):=jB.u8 (by kernel_rfl)
theorem lF:bM Tryz.prog 74 [.nilFunc,.bool false] [(0,1),(1,1)]:=⟨λw=>by simp,_,Tryz.underlying74,λw=>by simp⟩
theorem KL:Tryz.prog.underlying 76=some (.map 5 74):=by kernel_rfl
def SU:List (UInt8×Value):=[(1,GY 28 true),(2,GY 29 true),(3,GY 30 true),(4,GY 31 false),(5,GY 32 true),(6,GY 33 true),(7,GY 34 false),(8,GY 35 false),(9,GY 36 false),(10,GY 37 false),(11,GY 38 false),(12,GY 39 true)]
theorem Qi:aq W Tryz.prog 18 [] R (β:=Nat) (λ_=>True) (λb=>.map (some b)) (λb=>db (λc:UInt8=>Value.int .u8 (c.toNat:Int)) (λ_=>True) b SU::R):=by
 refine ze Tryz.func18 Tryz.ntmps18 ?_;refine zq ?_;refine ay.lA (λc:UInt8=>Value.int .u8 (c.toNat:Int)) (λ_=>True) rfl ?_;intro a;refine w ?_;refine VO.pure rfl rfl (af.build lF rfl (show aC _ _ _=some [.func (.func 28) #[] #[],.bool true]by simp[aC,bR,Value.cells])) rfl ?_;refine zq ?_;refine ay.dR (k:=(1:UInt8)) KL sL trivial rfl rfl rfl zh ?_;refine w ?_;refine VO.pure rfl rfl (af.build lF rfl (show aC _ _ _=some [.func (.func 29) #[] #[],.bool true]by simp[aC,bR,Value.cells])) rfl ?_;refine zq ?_;refine ay.dR (k:=(2:UInt8)) KL sL trivial rfl rfl rfl zh ?_;refine w ?_;refine VO.pure rfl rfl (af.build lF rfl (show aC _ _ _=some [.func (.func 30) #[] #[],.bool true]by simp[aC,bR,Value.cells])) rfl ?_;refine zq ?_;refine ay.dR (k:=(3:UInt8)) KL sL trivial rfl rfl rfl zh ?_;refine w ?_;refine VO.pure rfl rfl (af.build lF rfl (show aC _ _ _=some [.func (.func 31) #[] #[],.bool false]by simp[aC,bR,Value.cells])) rfl ?_;refine zq ?_;refine ay.dR (k:=(4:UInt8)) KL sL trivial rfl rfl rfl zh ?_;refine w ?_;refine VO.pure rfl rfl (af.build lF rfl (show aC _ _ _=some [.func (.func 32) #[] #[],.bool true]by simp[aC,bR,Value.cells])) rfl ?_;refine zq ?_;refine ay.dR (k:=(5:UInt8)) KL sL trivial rfl rfl rfl zh ?_;refine w ?_;refine VO.pure rfl rfl (af.build lF rfl (show aC _ _ _=some [.func (.func 33) #[] #[],.bool true]by simp[aC,bR,Value.cells])) rfl ?_;refine zq ?_;refine ay.dR (k:=(6:UInt8)) KL sL trivial rfl rfl rfl zh ?_;refine w ?_;refine VO.pure rfl rfl (af.build lF rfl (show aC _ _ _=some [.func (.func 34) #[] #[],.bool false]by simp[aC,bR,Value.cells])) rfl ?_;refine zq ?_;refine ay.dR (k:=(7:UInt8)) KL sL trivial rfl rfl rfl zh ?_;refine w ?_;refine VO.pure rfl rfl (af.build lF rfl (show aC _ _ _=some [.func (.func 35) #[] #[],.bool false]by simp[aC,bR,Value.cells])) rfl ?_;refine zq ?_;refine ay.dR (k:=(8:UInt8)) KL sL trivial rfl rfl rfl zh ?_;refine w ?_;refine VO.pure rfl rfl (af.build lF rfl (show aC _ _ _=some [.func (.func 36) #[] #[],.bool false]by simp[aC,bR,Value.cells])) rfl ?_;refine zq ?_;refine ay.dR (k:=(9:UInt8)) KL sL trivial rfl rfl rfl zh ?_;refine w ?_;refine VO.pure rfl rfl (af.build lF rfl (show aC _ _ _=some [.func (.func 37) #[] #[],.bool false]by simp[aC,bR,Value.cells])) rfl ?_;refine zq ?_;refine ay.dR (k:=(10:UInt8)) KL sL trivial rfl rfl rfl zh ?_;refine w ?_;refine VO.pure rfl rfl (af.build lF rfl (show aC _ _ _=some [.func (.func 38) #[] #[],.bool false]by simp[aC,bR,Value.cells])) rfl ?_;refine zq ?_;refine ay.dR (k:=(11:UInt8)) KL sL trivial rfl rfl rfl zh ?_;refine w ?_;refine VO.pure rfl rfl (af.build lF rfl (show aC _ _ _=some [.func (.func 39) #[] #[],.bool true]by simp[aC,bR,Value.cells])) rfl ?_;refine zq ?_;refine ay.dR (k:=(12:UInt8)) KL sL trivial rfl rfl rfl zh ?_;refine w ?_;exact VE.done a rfl trivial rfl ae.re
abbrev SD(c:Fa):Int:=IntKind.i64.wrap (IntKind.i64.wrap ((c.r:Int)+c.w)+c.f)
abbrev eE(n:Nat):Value:=ip n
theorem zE(p r:Nat)(X:qJ)(D:aw):az W Tryz.prog 40 [eE p] (Row p 37 [eE r]::Row r 81 X.cells::al X.b D::R) (ii (SD D.n)) (Row p 37 [eE r]::Row r 81 X.cells::al X.b D::R):=by
 (refine aq.enter Tryz.func40 Tryz.ntmps40 rfl rfl ?_);refine zr (s:=Bf X.b D) (h:=?_);intro _ _;refine zw ?_;refine ay.aB QM rfl ?_;intro a;refine zS ([ii D.n.r,ii D.n.w,ii D.n.f]) ?_;exact VE.ax rfl rfl ae.re
abbrev qJ.arr(X:qJ)(a:Option Addr):qJ:={X with a:=a}
abbrev oD(W:World)(f:FuncId)(r:Nat)(X:qJ)(A:mz)(D:aw)(S:ab){β:Type}(Ac:β->Prop)(e:β->Nat)(v:β->Value)(a:β->Option Addr)(D':β->aw)(T:β->ab):Prop:=
  ∀R,aq W Tryz.prog f [eE r,.agg A.cells.toArray] (Row r 81 X.cells::al X.b D::S::R) Ac (λy=>.agg (cn (e y) (v y) 0).toArray) (λy=>Row r 81 (X.arr (a y)).cells::al X.b (D' y)::T y::R)
abbrev eU(D D':aw):Int:=IntKind.i64.wrap (SD D'.n-SD D.n)
abbrev SO(f:FuncId)(cap:Array Value):Value:= .func (.func f) #[] cap
theorem cL{e:Int}{v:Value}{o:Int}(h:v.oneCell'=true):∀u∈cn e v o,u.oneCell'=true:=by
 intro u a;simp only[cn,List.mem_cons,uy,or_false]at a;rcases a with rfl|rfl|rfl
 · rfl
 · exact h
 · rfl
theorem IW{f:FuncId}{r:Nat}{X:qJ}{A:mz}{D:aw}{S:ab}{β:Type}{Ac:β->Prop}{e:β->Nat}{v:β->Value}{a:β->Option Addr}{D':β->aw}{T:β->ab}(j h g:Nat)(l:∀a w,(callFunc f a).run Tryz.prog w= .ok (.enter f a) w)(k:∀y,(v y).oneCell'=true)(spec:oD W f r X A D S Ac e v a D' T):
  aq W Tryz.prog 42 [.agg A.cells.toArray,eE j,eE h,eE g] (Row j 62 [SO 40 #[eE g]]::Row h 72 [SO f #[]]::Row g 37 [eE r]::Row r 81 X.cells::al X.b D::S::R) Ac (λy=>.agg (cn (e y) (v y) (eU D (D' y))).toArray)
   (λy=>Row r 81 (X.arr (a y)).cells::al X.b (D' y)::T y::R):=by
 refine ze Tryz.func42 Tryz.ntmps42 ?_;refine zj λ_=>?_;refine zw ?_;refine ay.aB eG rfl ?_;intro n5;refine zw ?_;refine ay.gS rfl rfl (λ_ _=>by simp) (zE g r X D) ae.re rfl ?_;intro _ _;refine zw ?_;refine ay.gS rfl rfl l (spec _) ae.re rfl ?_;intro y m;refine zw ?_;refine ay.aB eG rfl ?_;intro n7;refine zw ?_;have b:=k y;refine ay.gL (vs:=cn (e y) (v y) 0) ah rfl rfl rfl rfl (cL b) zh (by simp) ?_;refine zw ?_;refine ay.gS rfl rfl (λ_ _=>by simp) (zE g r (X.arr (a y)) (D' y)) ae.re rfl ?_;intro _ _;refine zl (cn (e y) (v y) (eU D (D' y))) (cL b) ?_;exact VE.results1 (.inl rfl) y rfl (aL.agg (vs:=cn (e y) (v y) (eU D (D' y))) ah rfl rfl zm rfl rfl) m rfl ae.re
abbrev T7(f:FuncId)(r:Nat)(z:Nat×Nat×Nat)(R:List ab):List ab:=Row z.1 62 [SO 40 #[eE z.2.2]]::Row z.2.1 72 [SO f #[]]::Row z.2.2 37 [eE r]::R
theorem Fy(f:FuncId)(r:Nat):aq W Tryz.prog 20 [eE r,SO f #[]] R (β:=Nat×Nat×Nat) (λ_=>True) (λz=>SO 42 #[eE z.1,eE z.2.1,eE z.2.2]) (λz=>T7 f r z R):=by
 refine ze Tryz.func20 Tryz.ntmps20 ?_;refine zj λ_=>?_;refine w ?_;refine zj λ_=>?_;refine w ?_;rename_i a b;refine VO.pure rfl rfl (af.bB rfl) rfl ?_;refine w ?_;refine zq ?_;refine ay.alloc (z:= .nilFunc) (λw=>by simp) rfl rfl ?_;intro n5;refine w ?_;refine VO.pure rfl rfl (af.bB rfl) rfl ?_;refine w ?_;exact VE.done (n5,b,a) rfl trivial rfl ae.re
theorem Ji(k:UInt8)(f:FuncId)(b:Bool)(h:getD SU k=some (GY f b)):(getD SU k).getD (.agg #[.nilFunc,.bool false])=GY f b/\(getD SU k).isSome=true:=by rw[h];exact⟨rfl,rfl⟩
theorem uq{f:FuncId}{ar:Bool}{r:Nat}{X:qJ}{A:mz}{D:aw}{S:ab}{β:Type}{Ac:β->Prop}{e:β->Nat}{v:β->Value}{a:β->Option Addr}{D':β->aw}{T:β->ab}(u:getD SU A.kind=some (GY f ar))(q:ar=true->X.a.isSome=true)(t:∀a w,(callFunc f a).run Tryz.prog w= .ok (.enter f a) w)(o:∀y,(v y).oneCell'=true)(spec:oD W f r X A D S Ac e v a D' T):
  aq W Tryz.prog 8 [eE r,.agg A.cells.toArray] (Row r 81 X.cells::al X.b D::S::R) Ac (λy=>.agg (cn (e y) (v y) (eU D (D' y))).toArray) (λy=>Row r 81 (X.arr (a y)).cells::al X.b (D' y)::T y::R):=by
 refine ze Tryz.func8 Tryz.ntmps8 ?_;refine zj λ_=>?_;refine w ?_;rename_i m;refine zq ?_;refine ay.aB eG rfl ?_;intro g;refine w ?_;obtain⟨z1,z2⟩:=Ji A.kind f ar u;refine VC.join (α:=Nat) (λ_=>True) (λn5=>Row n5 74 [.func (.func f) #[] #[],.bool ar]::Row g 44 (cn 0 dh 0)::Row m 48 A.cells::Row r 81 X.cells::al X.b D::S::R) (λn5=>[(0,eE r),(3,eE m),(4,eE g),(5,eE n5),(6,.bool true)]) ?_ ?_
 ·
  intro I C;refine VC.qO [0,3,7,8] 9 7 [1,2,0,3,4,5,6,7,8,9] _ 5 (λb=>Row b 74 [.nilFunc,.bool false]) (λb=>eE b) rfl (by kernel_rfl) (by kernel_rfl) ae.refl ?_;(repeat (apply VX.take rfl rfl rfl rfl;exact zp;rfl;rfl;rfl));refine VX.uk (K:=Row g 44 (cn 0 dh 0)) (S:=λp:Nat=>[db (λc:UInt8=>Value.int .u8 (c.toNat:Int)) (λ_=>True) p SU,Row g 44 (cn 0 dh 0)]) (H':=Row m 48 A.cells::Row r 81 X.cells::al X.b D::S::R) rfl rfl rfl rfl rfl rfl (λ_ _=>by simp) (λR=>Qi) (by(repeat exact .refl)) rfl (dG.alloc lF rfl) ae.re (λ_ _=>ae.re) rfl rfl rfl ?_;intro p _;refine VX.TA rfl rfl rfl rfl (af.DR (k:=A.kind) (z:= .agg #[.nilFunc,.bool false]) KL sL trivial (λw=>by simp) rfl rfl (.head _)) rfl (dG.alloc lF rfl) ae.re rfl rfl rfl ?_;rw[z1,z2];(repeat (apply VX.take rfl rfl rfl rfl;exact zp;rfl;rfl;rfl));refine VX.float rfl rfl (dG.alloc lF rfl) ae.re ?_;intro n5;refine zw ?_;refine ay.gL (vs:=[.func (.func f) #[] #[],.bool ar]) ah rfl rfl rfl rfl (by simp[Value.oneCell']) zh (by simp) ?_;refine⟨ae.re,?_⟩;refine w ?_;exact C.to n5 trivial ⟨rfl,rfl,rfl,rfl,rfl,trivial⟩ ae.re
 intro n5 _;cases l:ar
 case' true=>
  obtain⟨a0,j⟩:=Option.isSome_iff_exists.1 (q l);refine w ?_;refine VC.aK rfl rfl (by rw[j];rfl) ?_;refine w ?_
 case' false=>(refine w ?_)
 all_goals
  refine zx [3] 5 [0,1,2,4,3,5,6] _ ?_;refine zr (s:=Fy f r) (h:=?_);rintro⟨F,G,E⟩-;refine⟨ae.re,?_⟩;refine zw ?_;refine ay.gS rfl rfl (λ_ _=>by simp) (IW F G E t o spec) ae.re rfl ?_;intro y B;refine zl (cn (e y) (v y) (eU D (D' y))) (cL (o y)) ?_;exact VE.results1 (.inl rfl) y rfl (aL.agg (vs:=cn (e y) (v y) (eU D (D' y))) ah rfl rfl zm rfl rfl) B rfl ae.re
end
end Go.Proofs.YtonpidcjpenflaaGreat
namespace Go.Proofs.YtonpidcjpenflaaGreat
open Go.RowKit Go.Sl
attribute [local irreducible] Sl.Own
section
variable{W:World}{R:List ab}{r:Nat}{X:qJ}{A:mz}{D:aw}{S:ab}{β:Type}{Ac:β->Prop}{e:β->Nat}{v:β->Value}{D':β->aw}{T:β->ab}
abbrev iP(W:World)(f:FuncId)(args:List Value)(b:Nat)(D:aw)(S:ab){β:Type}(Ac:β->Prop)(rv:β->Value)(D':β->aw)(T:β->ab):Prop:=
  ∀R,aq W Tryz.prog f args (al b D::S::R) Ac rv (λy=>al b (D' y)::T y::R)
theorem Gs(h:iP W 62 [.pointer X.a] X.b D S Ac (λy=>i6 (e y)) D' T):oD W 30 r X A D S Ac e (λ_=>dh) (λ_=>X.a) D' T:=by
 intro R;refine ze Tryz.func30 Tryz.ntmps30 ?_;refine zj λ_=>?_;refine w ?_;rename_i c;refine zq ?_;refine ay.aB eG rfl ?_;intro b;refine zr (s:=h _) (h:=?_);intro y a;refine zr (s:=pR (e y)) (h:=?_);intro _ _;refine zl (cn (e y) dh 0) (cL rfl) ?_;exact VE.results1 (.inl rfl) y rfl (aL.agg (vs:=cn (e y) dh 0) ah rfl rfl zm rfl rfl) a rfl ae.re
theorem Gu(h:iP W 61 [.pointer X.a,.slice A.po A.pl A.pc] X.b D S Ac (λy=>i6 (e y)) D' T):oD W 29 r X A D S Ac e (λ_=>dh) (λ_=>X.a) D' T:=by
 intro R;refine ze Tryz.func29 Tryz.ntmps29 ?_;refine zj λ_=>?_;refine w ?_;rename_i c;refine zq ?_;refine ay.aB eG rfl ?_;intro b;refine w ?_;refine zx [] 6 [0,1,2,3,4,5,6,7,8] _ ?_;refine zr (s:=h _) (h:=?_);intro y a;refine zr (s:=pR (e y)) (h:=?_);intro _ _;refine zl (cn (e y) dh 0) (cL rfl) ?_;exact VE.results1 (.inl rfl) y rfl (aL.agg (vs:=cn (e y) dh 0) ah rfl rfl zm rfl rfl) a rfl ae.re
theorem J3{o:β->Value}(a:∀y,(v y).oneCell'=true)(h:iP W 60 [.pointer X.a,ii A.block,ii A.n] X.b D S Ac (λy=>.tuple #[v y,i6 (e y)]) D' T):oD W 28 r X A D S Ac e v (λ_=>X.a) D' T:=by
 intro R;refine ze Tryz.func28 Tryz.ntmps28 ?_;refine zj λ_=>?_;refine w ?_;rename_i d;refine zq ?_;refine ay.aB eG rfl ?_;intro c;refine w ?_;refine zx [8] 13 [0,1,2,3,4,5,6,7,8,9,10,11,12,13] (Row c 44 (cn 0 dh 0)::Row d 48 A.cells::Row r 81 X.cells::R) ?_;refine zr (s:=h _) (h:=?_);intro y b;refine⟨ae.re,?_⟩;refine w ?_;refine VO.pure rfl rfl (af.build eG rfl (show aC _ _ _=some (cn (e y) (v y) 0)by simp[aC,bR,cells_one (a y),show ∀i:Int,(Value.int .u16 i).cells=#[i6 i]from λ_=>rfl])) rfl ?_;refine zl (cn (e y) (v y) 0) (cL (a y)) ?_;exact VE.results1 (.inl rfl) y rfl (aL.agg (vs:=cn (e y) (v y) 0) ah rfl rfl zm rfl rfl) b rfl ae.re
theorem J2{a0:Addr}(a:X.a=some a0)(h:iP W 64 [.pointer X.a,ii A.slot] X.b D S Ac (λy=>i6 (e y)) D' T):oD W 31 r X A D S Ac e (λ_=>dh) (λ_=>X.a) D' T:=by
 intro R;refine ze Tryz.func31 Tryz.ntmps31 ?_;refine zj λ_=>?_;refine w ?_;rename_i d;refine zq ?_;refine ay.aB eG rfl ?_;intro c;refine w ?_;refine VC.aK rfl rfl (by rw[a];rfl) ?_;refine w ?_;refine zx [] 6 [0,1,2,3,4,5,6,7,8] _ ?_;refine zr (s:=h _) (h:=?_);intro y b;refine zr (s:=pR (e y)) (h:=?_);intro _ _;refine zl (cn (e y) dh 0) (cL rfl) ?_;exact VE.results1 (.inl rfl) y rfl (aL.agg (vs:=cn (e y) dh 0) ah rfl rfl zm rfl rfl) b rfl ae.re
abbrev IM(d:Bool):Value:=ib (if d then 1 else 0)
theorem J6{d:β->Bool}(h:iP W 69 [.pointer X.a] X.b D S Ac (λy=>.tuple #[.bool (d y),i6 0]) D' T):oD W 33 r X A D S (β:=β×Nat) (λy=>Ac y.1) (λ_=>0) (λy=>.slice (ik y.2) 1 1) (λ_=>X.a) (λy=>D' y.1) (λy=>Sl.star [T y.1,Row y.2 5 [IM (d y.1)]]):=by
 intro R;refine ze Tryz.func33 Tryz.ntmps33 ?_;refine zj λ_=>?_;refine w ?_;rename_i g;refine zq ?_;refine ay.aB eG rfl ?_;intro f;refine zr (s:=h _) (h:=?_);intro y c;refine w ?_;cases a:d y
 all_goals
  refine w ?_;refine zq ?_;refine ay.bP eH rfl rfl (by simp[Value.oneCell']) (by decide) rfl ?_;intro nb;refine VO.pure rfl rfl (af.build eG rfl (show aC _ _ _=some (cn 0 (.slice (ik nb) 1 1) 0)by simp[aC,bR,Value.cells])) rfl ?_;refine zl (cn 0 (.slice (ik nb) 1 1) 0) (cL rfl) ?_;exact VE.results1 (.inl rfl) (y,nb) rfl (aL.agg (vs:=cn 0 (.slice (ik nb) 1 1) 0) ah rfl rfl zm rfl rfl) c rfl (ae.trans (ae.re (L:=T y::Row nb 5 [IM (d y)]::Row r 81 (X.arr X.a).cells::al X.b (D' y)::R) (by rw[a];(repeat first|exact .refl|(apply aP.cons;focus repeat first|exact .head|apply nW.tail)|exact .nil|apply aP.drop))) (λi b=>((b.nest (L:=[T y,Row nb 5 [IM (d y)]])).perm (qY (l₁:=[Row r 81 (X.arr X.a).cells,al X.b (D' y)])).symm)))
theorem Gt(a:∀y,e y≠0){d:β->Bool}(h:iP W 69 [.pointer X.a] X.b D S Ac (λy=>.tuple #[.bool (d y),i6 (e y)]) D' T):oD W 33 r X A D S Ac e (λ_=>dh) (λ_=>X.a) D' T:=by
 intro R;refine ze Tryz.func33 Tryz.ntmps33 ?_;refine zj λ_=>?_;refine w ?_;rename_i g;refine zq ?_;refine ay.aB eG rfl ?_;intro f;refine zr (s:=h _) (h:=?_);intro y c;have b:=a y;refine w ?_;refine VC.cU rfl rfl (bne_iff_ne.2 zO) ?_;refine zr (s:=pR (e y)) (h:=?_);intro _ _;refine zl (cn (e y) dh 0) (cL rfl) ?_;exact VE.results1 (.inl rfl) y rfl (aL.agg (vs:=cn (e y) dh 0) ah rfl rfl zm rfl rfl) c rfl ae.re
theorem Nh{kl:List fI}{a:β->Addr}(d:∀R,oy W R A.ko kl)(c:kl.length=A.kl)(g:A.n<=0)(h:∀R,aq W Tryz.prog 73 [ip X.b] (al X.b (D.cut (kl.map fI.l))::R) Ac (λy=>.tuple #[.pointer (some (a y)),i6 0]) (λy=>al X.b (D' y)::T y::R)):oD W 36 r X A D S Ac (λ_=>0) (λ_=>dh) (λy=>some (a y)) D' T:=by
 intro R;have b:=λR=>IH (W:=W) (R:=R) (cap:=A.kc) X.b D (d R);rw[c]at b;refine ze Tryz.func36 Tryz.ntmps36 ?_;refine zj λ_=>?_;refine w ?_;rename_i j;refine zq ?_;refine ay.aB eG rfl ?_;intro i;refine w ?_;refine zx [] 6 [0,1,2,3,4,5,6] _ ?_;refine zr (s:=b _) (h:=?_);intro _ _;refine w ?_;refine VC.aK rfl rfl (gx zO) ?_;refine zr (s:=h _) (h:=?_);intro y f;refine zr (s:=pR 0) (h:=?_);intro _ _;refine zl (cn (0:Nat) dh 0) (cL rfl) ?_;exact VE.results1 (.inl rfl) y rfl (aL.agg (vs:=cn (0:Nat) dh 0) ah rfl rfl zm rfl rfl) f rfl ae.re
end
end Go.Proofs.YtonpidcjpenflaaGreat
namespace Go.Proofs.YtonpidcjpenflaaGreat
open Go.RowKit Go.Sl
attribute [local irreducible] Sl.Own
section
variable{W:World}{R:List ab}{r:Nat}{X:qJ}{A:mz}{D:aw}{S:ab}{β β1:Type}{Ac:β->Prop}{Ac1:β1->Prop}{e:β->Nat}{v:β->Value}{D':β->aw}{T:β->ab}{D1 D2:β1->aw}{S1:β1->ab}
theorem Er{a0:Addr}(a:X.a=some a0){sd:β->ai}{p u:Nat}(h:∀R,aq W Tryz.prog 23 [.pointer X.a] (S::R) Ac (λy=>.agg (lP (sd y) false p u).toArray) (λy=>T y::R)):
  aq W Tryz.prog 10 [eE r] (Row r 81 X.cells::S::R) Ac (λy=>.tuple #[.agg (lP (sd y) false p u).toArray,.bool true]) (λy=>Row r 81 X.cells::T y::R):=by
 refine ze Tryz.func10 Tryz.ntmps10 ?_;refine zq ?_;refine ay.aB xZ rfl ?_;intro c;refine w ?_;refine VC.aK rfl rfl (by rw[a];rfl) ?_;refine zr (s:=h _) (h:=?_);intro y b;refine zS (lP (sd y) false p u) ?_;exact VE.results2 (.inl rfl) y rfl (aL.agg (vs:=lP (sd y) false p u) ah rfl rfl zm rfl rfl) (.tmp rfl) b rfl ae.re
theorem TH:cH Tryz.prog 136 134 .nilFunc 1 8:=⟨by kernel_rfl,by kernel_rfl,rfl,by simp[Value.cells,Value.oneCell']⟩
theorem J4(a b:Nat)(h:iP W 64 [.pointer X.a,ii A.slot] X.b D S Ac (λ_=>i6 0) D' T):aq W Tryz.prog 65 [eE a,eE b] (Row a 37 [eE r]::Row b 48 A.cells::Row r 81 X.cells::al X.b D::S::R) Ac (λ_=>i6 0) (λy=>Row a 37 [eE r]::Row b 48 A.cells::Row r 81 X.cells::al X.b (D' y)::T y::R):=by
 refine ze Tryz.func65 Tryz.ntmps65 ?_;refine zx [] 6 [0,1,2,3,4,5,6,7] _ ?_;refine zr (s:=h _) (h:=?_);intro y c;refine w ?_;exact VE.done y rfl c rfl ae.re
theorem J5{D2:aw}(a b:Nat)(c:X.rows<=4096)(h:D.swap A.slot (1+(X.rows:Int))=(0,D2)):az W Tryz.prog 66 [eE a,eE b] (Row a 37 [eE r]::Row b 48 A.cells::Row r 81 X.cells::al X.b D::R) (i6 0) (Row a 37 [eE r]::Row b 48 A.cells::Row r 81 X.cells::al X.b D2::R):=by
 have d:=λR=>Fs (W:=W) (R:=R) X.b D A.slot (1+(X.rows:Int));rw[h]at d;refine ze Tryz.func66 Tryz.ntmps66 ?_;refine zx [] 11 [0,1,2,3,4,5,6,7,8,9,10,11,12] _ ?_;refine zr (s:=d _) (h:=?_);intro _ _;refine w ?_;exact VE.ax rfl rfl ae.re
abbrev CF(f:FuncId)(a b:Nat):Value:= .func (.func f) #[] #[eE a,eE b]
theorem B6(f:X.rows<=4096)(n:0<=A.slot/\A.slot<X.m)(k:iP W 64 [.pointer X.a,ii A.slot] X.b D S Ac1 (λ_=>i6 0) D1 S1)(l:∀y,Ac1 y->(D1 y).swap A.slot (1+(X.rows:Int))=(0,D2 y))(m:∀y,Ac1 y->∀R,aq W Tryz.prog 68 [.pointer X.a,ii A.slot] (al X.b (D2 y)::S1 y::R) Ac (λ_=>i6 0) (λz=>al X.b (D' z)::T z::R)):
  oD W 32 r X A D S Ac (λ_=>0) (λ_=>dh) (λ_=>X.a) D' T:=by
 intro R;refine ze Tryz.func32 Tryz.ntmps32 ?_;refine zj λ_=>?_;refine w ?_;refine zj λ_=>?_;refine w ?_;rename_i a b;refine zq ?_;refine ay.aB eG rfl ?_;intro d;refine w ?_;refine zx [] 11 [0,1,2,3,4,5,6,7,8,9,10,11,12] _ ?_;refine w ?_;refine VD.gF rfl rfl rfl (gx zO) ?_;refine w ?_;refine VC.aK rfl rfl (gx zO) ?_;refine w ?_;refine VO.pure rfl rfl (af.bB rfl) rfl ?_;refine w ?_;refine VO.pure rfl rfl (af.bB rfl) rfl ?_;refine w ?_;refine zq ?_;refine ay.bP TH rfl rfl (by simp[Value.oneCell']) (by decide) rfl ?_;intro nb;refine w ?_
 refine VC.loop (α:=Option (β1×Bool)) (λz=>∀q,z=some q->Ac1 q.1) (λz=>Row nb 134 [CF 65 a b,CF 66 a b]::Row a 37 [eE r]::Row b 48 A.cells::Row r 81 X.cells::Row d 44 (cn 0 dh 0)::al X.b (z.elim D λq=>if q.2 then D2 q.1 else D1 q.1)::z.elim S (λq=>S1 q.1)::R)
  (λz=>[(2,eE a),(3,eE b),(4,eE d),(24,.slice (ik nb) 2 2),(25,ii 2),(26,ii (z.elim 0 λq=>if q.2 then 2 else 1))]) (λz=>z.elim 2 λq=>if q.2 then 0 else 1) rfl none (λq h=>by cases h) ae.re ⟨rfl,rfl,rfl,rfl,rfl,rfl,trivial⟩ ?_
 have c:∀u∈[CF 65 a b,CF 66 a b],u.oneCell'=true:=by simp[Value.oneCell']
 rintro(_|⟨y,_|_⟩) i
 ·
  have hr1:aV W (Row nb 134 [CF 65 a b,CF 66 a b]::Row a 37 [eE r]::Row b 48 A.cells::Row r 81 X.cells::Row d 44 (cn 0 dh 0)::al X.b (D)::S::R) 1 (ik nb) 2 [CF 65 a b,CF 66 a b]:=aV.row c (.head _) rfl;refine VC.aR (H':=Row nb 134 [CF 65 a b,CF 66 a b]::Row a 37 [eE r]::Row b 48 A.cells::Row r 81 X.cells::Row d 44 (cn 0 dh 0)::al X.b (D)::S::R) ae.re ?_;refine VC.re 26 (ii ((0:Nat):Int)) rfl rfl ?_;refine zw ?_;refine ay.gS rfl rfl (λ_ _=>by simp) (J4 a b k) ae.re rfl ?_;intro y g;refine w ?_;exact VE.round (some (y,false)) (λq e=>by cases e;exact g) (by dsimp only[Option.elim];simp) ⟨rfl,rfl,rfl,rfl,rfl,rfl,trivial⟩ ae.re
 ·
  have hr1:aV W (Row nb 134 [CF 65 a b,CF 66 a b]::Row a 37 [eE r]::Row b 48 A.cells::Row r 81 X.cells::Row d 44 (cn 0 dh 0)::al X.b (D1 y)::S1 y::R) 1 (ik nb) 2 [CF 65 a b,CF 66 a b]:=aV.row c (.head _) rfl;refine VC.aR (H':=Row nb 134 [CF 65 a b,CF 66 a b]::Row a 37 [eE r]::Row b 48 A.cells::Row r 81 X.cells::Row d 44 (cn 0 dh 0)::al X.b (D1 y)::S1 y::R) ae.re ?_;refine VC.re 26 (ii ((1:Nat):Int)) rfl rfl ?_;refine zw ?_;refine ay.gS rfl rfl (λ_ _=>by simp) (J5 a b f (l y (i _ rfl))) ae.re rfl ?_;intro _ _;refine w ?_;exact VE.round (some (y,true)) (λq e=>by cases e;exact i (y,false) rfl) (by dsimp only[Option.elim];simp) ⟨rfl,rfl,rfl,rfl,rfl,rfl,trivial⟩ ae.re
 ·
  have g:Ac1 y:=i _ rfl;refine VC.aR (H':=Row nb 134 [CF 65 a b,CF 66 a b]::Row a 37 [eE r]::Row b 48 A.cells::Row r 81 X.cells::Row d 44 (cn 0 dh 0)::al X.b (D2 y)::S1 y::R) ae.re ?_;refine VC.re 26 (ii ((2:Nat):Int)) rfl rfl ?_;refine w ?_;refine zx [] 6 [0,1,2,3,4,5,6,7,8] _ ?_;refine zr (s:=m y g _) (h:=?_);intro z j;refine zr (s:=pR 0) (h:=?_);intro _ _;refine zl (cn (0:Nat) dh 0) (cL rfl) ?_;exact VE.results1 (.inl rfl) z rfl (aL.agg (vs:=cn (0:Nat) dh 0) ah rfl rfl zm rfl rfl) j rfl ae.re
end
end Go.Proofs.YtonpidcjpenflaaGreat
namespace Go.Proofs.YtonpidcjpenflaaGreat
open Go.RowKit Go.Sl
attribute [local irreducible] Sl.Own
abbrev Oj(m n i:Nat):List Int:=List.replicate i (n:Int)++List.replicate (m+1-i) 0
abbrev CG(m n z:Nat):List Int:=List.replicate m (n:Int)++[(z:Int)]
structure QW where
  r:Nat
  b:Nat
  z:CI
abbrev QW.X(m c s:Nat)(y:QW):qJ:=⟨y.b,ik y.z.a,s*c,m,c,s⟩
theorem Qa{m n i:Nat}(h:i<m+1):(Oj m n i).set i (n:Int)=Oj m n (i+1):=by
 unfold Oj;rw[JB _ _ (by rw[j0];exact eI _),j0,BH,show m+1-i=(m+1-(i+1))+1 by omega,List.replicate_succ,List.set_cons_zero,List.replicate_succ',lx];rfl
theorem NP(m n z:Nat):(Oj m n (m+1)).set m (z:Int)=CG m n z:=by
 unfold Oj;rw[BH,List.replicate_zero,mn,List.replicate_succ',JB _ _ (by rw[j0];exact eI _),j0,BH];rfl
theorem Ib{m n i:Nat}(h:i<=m+1):(Oj m n i).length=m+1:=by unfold Oj;rw[c9,j0,j0];omega
theorem Ni{W:World}{R:List ab}{m c s ring:Nat}{lazy:Bool}{K:Kd}(h:QR m c s ring lazy K)(B:Bq (aw.new (CG m (1+s*c) (2+ring))) (m+1) K 0)(v:IG (CG m (1+s*c) (2+ring))=0):
  aq W Tryz.prog 14 [.agg (cv m c s).toArray,ii ring,.bool lazy] R (β:=QW) (λy=>KY y.b m c s ring 0 lazy y.z) (λy=>.tuple #[eE y.r,i6 0]) (λy=>Row y.r 81 (y.X m c s).cells::Row y.z.a 102 (y.z.X y.b m c s ring lazy).cells::dz (y.z.X y.b m c s ring lazy)::sF y.z.t y.z.r y.z.w (List.replicate m (-1)) R):=by
 have A:=h.hm;have n:=h.hc;have u:=h.hs;have F:=h.hr;have e:s*c<=256*16:=mo u.2 n.2;refine ze Tryz.func14 Tryz.ntmps14 ?_;refine zj λ_=>?_;refine w ?_;rename_i g;refine zt (s:=jH ⟨m,c,s⟩) (h:=?_);intro _ _;rw[lam ⟨⟨by dsimp only;omega,by dsimp only;omega⟩,⟨by dsimp only;omega,by dsimp only;omega⟩,by dsimp only;omega,by dsimp only;omega⟩];refine w ?_;refine VO.gF rfl rfl rfl (gx zO) ?_;refine w ?_;refine VC.aK rfl rfl (gx zO) ?_;refine w ?_;refine zx [1] 3 [0,2,1,3,4,5] _ ?_;refine zt (s:=gn A n u) (h:=?_);intro _ _;refine⟨ae.re,?_⟩;refine VD.end rfl rfl rfl (ay.pure (af.build TE rfl (show aC _ _ _=some [.pointer none,.pointer none,ii (s*c:Nat),ii m,ii c,ii s]by simp[aC,bR,Value.cells])) rfl ?_);refine w ?_;refine zj λ_=>?_;refine w ?_;rename_i r;obtain⟨rows,f⟩:∃rows,rows=s*c:=⟨_,rfl⟩;rw[<-f];have C:rows<=4096:=by rw[f];exact e
 refine VO.re 30 (ii ((m+1:Nat):Int)) rfl (by congr 1) ?_;refine zq ?_;refine ay.dd py rfl rfl rfl ?_ ?_ rfl ?_
 · omega
 · simp only[maxLen];omega
 intro nb;refine w ?_;have a:∀(fr:List Int)(k:Nat)(z:Int),(j8 fr).set k (ii z)=j8 (fr.set k z):=λfr k z=>by unfold j8;rw[List.map_set]
 refine VC.loop (α:=Nat) (λi=>i<=m+1) (λi=>Sl.Own 3 1 (.slice (ik nb) (m+1) (m+1)) (m+1) (j8 (Oj m (1+rows) i))::Row r 81 [.pointer none,.pointer none,ii rows,ii m,ii c,ii s]::Row g 36 (cv m c s)::R) (λi=>[(1,ii ring),(2,.bool lazy),(3,eE g),(9,eE r),(10,.slice (ik nb) (m+1:Nat) (m+1:Nat)),(33,ii (m+1:Nat)),(34,ii i)]) (λi=>m+1-i) rfl 0 (c7 _) (by rw[show j8 (Oj m (1+rows) 0)=List.replicate (m+1) (ii 0)by unfold Oj j8;simp];exact ae.re) ⟨rfl,rfl,rfl,rfl,rfl,rfl,rfl,trivial⟩ ?_;intro i t;refine w ?_;refine zk ?_ ?_<;>intro p
 ·
  have o:i<m+1:=by have:=cI p;omega
  clear p;refine w ?_;refine VO.re 43 (ii ((1+rows:Nat):Int)) rfl (by congr 1) ?_;refine zq ?_;refine ay.EJ ah rfl rfl rfl rfl zh (by unfold j8;rw[ew,Ib t];omega) ?_;rw[a,Qa o];refine w ?_;exact VE.round (i+1) o zO ⟨rfl,rfl,rfl,rfl,rfl,rfl,b7 rfl (by congr 1),trivial⟩ ae.re
 have q:i=m+1:=by have:=dx p;omega
 clear p t;subst q;refine w ?_;refine VO.re 50 (ii ((2+ring:Nat):Int)) rfl (by congr 1) ?_;refine zq ?_;refine ay.EJ ah rfl rfl rfl rfl zh (by unfold j8;rw[ew,Ib (eI _)];omega) ?_;rw[a,NP,f];have d:(CG m (1+s*c) (2+ring)).length=m+1:=by unfold CG;rw[c9,j0];rfl
 have j:=II (W:=W) (R:=Sl.Own 3 1 (.slice (ik nb) (m+1) (m+1)) (m+1) (j8 (CG m (1+s*c) (2+ring)))::Row r 81 [.pointer none,.pointer none,ii (s*c:Nat),ii m,ii c,ii s]::Row g 36 (cv m c s)::R) (cap:=m+1) (ao:=ik nb) (l:=CG m (1+s*c) (2+ring)) (by rw[d];exact aV.own (DF _) (.head _) (by show(List.map _ _).length=_;rw[ew,d];omega) (by simp)) zO;rw[v,d]at j;refine zr (s:=j) (h:=?_);intro x D;obtain⟨b,rfl⟩:∃b,x=some b:=Option.isSome_iff_exists.1 (by rw[D];rfl);refine w ?_;refine VC.aR (H':=al b (aw.new (CG m (1+s*c) (2+ring)))::Row r 81 [eE b,.pointer none,ii (s*c:Nat),ii m,ii c,ii s]::Row g 36 (cv m c s)::R) ae.re ?_;refine VC.Bm (Mz (Row r 81 [eE b,.pointer none,ii (s*c:Nat),ii m,ii c,ii s]) (Row g 36 (cv m c s)::R)) [8,14] [(14,1)] [(4,0)] 1 [0,1,2,3,4,5,6,7,8,9,10,11,12,13,14] rfl (by kernel_rfl) (by kernel_rfl) ae.re (tj _ _) ?_;(iterate 4 (apply VL.take rfl rfl rfl 1 rfl;exact zp;rfl));apply VL.take rfl rfl rfl 0 rfl;exact zp;rfl;(iterate 3 (apply VL.take rfl rfl rfl 1 rfl;exact zp;rfl));refine VL.yC rfl rfl rfl 0 rfl ?_;refine zd rfl rfl (I2 (R:=Row r 81 [eE b,.pointer none,ii (s*c:Nat),ii m,ii c,ii s]::Row g 36 (cv m c s)::R) b h B (by decide)) ?_;intro z E;refine⟨ae.re,?_⟩;(iterate 5 (apply VL.take rfl rfl rfl 1 rfl;exact zp;rfl));refine VL.yC rfl rfl rfl 1 rfl ?_;apply ay.st ah rfl rfl rfl rfl (by(repeat first|exact .head|apply eQ.tail);done) (by(simp;done));refine⟨ae.re,?_⟩;refine VL.nil ?_;refine w ?_;exact VE.done ⟨r,b,z⟩ rfl E rfl ae.re
end Go.Proofs.YtonpidcjpenflaaGreat
namespace Go.Proofs.YtonpidcjpenflaaGreat
open Go.RowKit Go.Sl
abbrev MI(m n z:Nat):Kd:=λi=>if i<m then some (.blank n)else if i=m then some (.blank z)else none
theorem P9{m n z i:Nat}(h:i<m+1):(CG m n z)[i]?=some ((if i<m then n else z:Nat):Int):=by
 unfold CG;by_cases q:i<m
 · rw[Ah (by rw[j0];exact q),Og,lam q,lam q]
 ·
  obtain rfl:i=m:=by omega
  rw[Ob (by rw[j0];exact eI _),j0,BH,aE q];rfl
theorem RN{m n z:Nat}(l:1<=n/\n<=8192)(o:1<=z/\z<=8192):Bq (aw.new (CG m n z)) (m+1) (MI m n z) 0:=by
 refine⟨by show((CG m n z).map mr).length=_;rw[ew];unfold CG;rw[c9,j0];rfl,rfl,rfl,λi k e=>?_,MJ _,λi f e=>?_⟩
 ·
  have f:i<m+1:=by
   unfold MI at e;split at e
   · omega
   ·
    split at e
    · omega
    · cases e
  have d:k= .blank (if i<m then n else z):=by
   unfold MI at e;split at e
   · rename_i q;rw[lam q];exact(CD e).symm
   ·
    rename_i q;rw[aE q];split at e
    · exact(CD e).symm
    · cases e
  have a:1<=(if i<m then n else z)/\(if i<m then n else z)<=8192:=by split<;>assumption
  generalize g:(if i<m then n else z)=N at*;refine⟨?_,by rw[d];rfl,by rw[d];exact⟨λb h=>by rw[HE h];rfl,λc j=>(by cases j),by rw[pM];exact a.2⟩⟩;show((CG m n z).map mr)[i]?=_;rw[law,P9 f,g,d];show some (mr (N:Int))=_;unfold mr;rw[aE zO,Int.toNat_natCast]
 ·
  unfold MI at e;split at e
  · cases e
  · rw[lam zO]at e;cases e
theorem NO{m n z:Nat}(c:m<=16)(d:1<=n/\n<=8192)(e:1<=z/\z<=8192):IG (CG m n z)=0:=by
 have b:(CG m n z).length=m+1:=by unfold CG;rw[c9,j0];rfl
 unfold IG;rw[aE zO,lam];rw[List.all_eq_true];intro x a;unfold CG at a;rcases l0.1 a with q|q
 · rw[HE q];unfold pk;simp;omega
 · rw[ju.1 q];unfold pk;simp;omega
structure Ba(X:aY):Prop where
  ok:X.ok
  ring:5<=X.ring/\X.ring<=2048
  id:X.id<18446744073709551616
  ev:1<=X.ev/\X.ev<=4611686018427387904
  sf:1<=X.sf/\X.sf<=X.ev
  aX:qR X.st X.st.length
  cur:(X.cur:Int)<=if(3:UInt8)∈X.st then(X.s:Int)-1 else 0
  cap:X.st.length<=X.sc
theorem pf{X:aY}(h:Ba X){k:Nat}(s:k<=X.m):(X.mL k).fit/\(X.mL k).yD/\(X.mL k).enc.1=0/\(X.mL k).enc.2.length=128:=by
 obtain⟨⟨i,j,l,m,n,o⟩,p,q,r,e,d,f,g⟩:=h;have b:(X.mL k).fit:=by constructor<;>simp only[aY.mL]<;>omega
 have c:(X.mL k).yD:=by
  refine⟨⟨ky ?_,ky ?_,?_,?_,?_⟩,d,?_,?_⟩<;>simp only[aY.mL,ai.last,DK]<;>try omega
 have a:(X.mL k).enc=(0,cE (X.mL k).body):=lam c;exact⟨b,c,by rw[a],by rw[a];exact lq (Gg b c)⟩
theorem PJ{m c s ring:Nat}(lazy:Bool)(h:3<=m/\m<=16)(g:1<=c/\c<=16)(n:1<=s/\s<=256)(l:5<=ring/\ring<=2048):QR m c s ring lazy (MI m (1+s*c) (2+ring)):=by
 refine⟨h,g,n,l,λi o=>lam o,?_,λb v u r w k p f=>?_⟩
 ·
  show(if m<m then _ else if m=m then _ else _)=_;rw[aE (RC m),lam rfl]
 ·
  have e:(List.replicate m (1:UInt8)).length=m:=j0;obtain⟨a,_,b,d⟩:=pf (X:=Fz b m c s ring lazy v u r w) (k:=k) ⟨⟨h,g,n,e,λx t=>.inl (HE t),c7 _⟩,l,by dsimp only;decide,by dsimp only;decide,by dsimp only;decide,λj y _=>by rw[List.getElem_replicate];exact⟨by decide,by decide,λq=>cN q (by decide)⟩,by dsimp only;split<;>omega,by dsimp only;rw[e];exact f⟩ p;exact⟨a,b,d⟩
theorem Ba.xn{X:aY}{K:Kd}(h:Ba X.next)(c:∃kd,K X.m=some kd/\0<kd.last.length)(b:∀i (q:i<X.st.length),X.st[i]≠2->∃kd,K i=some kd/\0<kd.last.length):iS X K (X.m+1):=
 ⟨⟨h.ok.m,h.ok.c,h.ok.s,h.ok.st,h.ok.u4,h.ok.cur⟩,rfl,h.ev.2,λk a=>(pf h (k:=k) a).1,λk a=>(pf h (k:=k) a).2.2.1,λk a=>(pf h (k:=k) a).2.2.2,c,b⟩
end Go.Proofs.YtonpidcjpenflaaGreat
namespace Go.Proofs.YtonpidcjpenflaaGreat
open Go.RowKit Go.Sl
attribute [local irreducible] Sl.Own
structure dN where
  a:Nat
  r:Nat
  w:Nat
  X:aY
  t:iu
  x:Option Addr×Nat
  ps:List aj
abbrev dN.L(z:dN):List ab:=[Row z.a 102 z.X.cells,dz z.X,Row z.r 142 z.t.Y.cells,Sl.Own 3 1 (.slice (ik z.t.Y.fa) z.t.Y.m z.t.Y.m) z.t.Y.m (j8 (bU z.X)),bz z.w z.t.Y.b z.t.v,bL z.x z.ps,bX z.ps]
def dN.O(z:dN):ab:=Sl.star z.L
theorem Li{W:World}{f:FuncId}{args:List Value}{b:Nat}{D:aw}{z:dN}{β:Type}{Ac:β->Prop}{rv:β->Value}{D':β->aw}{T:β->List ab}(h:∀R,aq W Tryz.prog f args (al b D::(z.L++R)) Ac rv (λy=>al b (D' y)::(T y++R))):iP W f args b D z.O Ac rv D' (λy=>Sl.star (T y)):=λR=>
 fX (λw a=>((a.swap).join).perm (qY)) (aq.mono (h R) (λy=>y) (λ_ q=>q) (λ_ _=>rfl) (λy _ w a=>(((a.perm (qY).symm).nest).swap)))
abbrev dN.wait(z:dN):Prop:=(z.t.Y.wo=none/\z.t.Y.wl=[])\/(z.t.Y.wo=z.x.1/\z.t.Y.wl=z.ps)
theorem dN.rd{W:World}{z:dN}{H:List ab}(c:z.wait)(d:z.x.1=none->z.ps.length=0)(e:∀p∈z.ps,p.d.ok)(m1:bL z.x z.ps∈H)(m2:bX z.ps∈H):bq W H z.t.Y.wo z.t.Y.wl:=by
 rcases c with⟨a,b⟩|⟨a,b⟩
 · rw[a,b];exact bq.Tr
 · rw[a,b];exact bq.own d e m1 m2
theorem G7{W:World}{f:FuncId}{args:List Value}{b:Nat}{D:aw}{z:dN}{β:Type}{Ac:β->Prop}{rv:β->Value}{D':β->aw}{T:β->List ab}{R:List ab}(h:(z.x.1=none->z.ps.length=0)->(∀p∈z.ps,p.d.ok)->aq W Tryz.prog f args (al b D::(z.L++R)) Ac rv (λy=>al b (D' y)::(T y++R))):aq W Tryz.prog f args (al b D::z.O::R) Ac rv (λy=>al b (D' y)::Sl.star (T y)::R):=
 G3 (p:=z.x.1=none->z.ps.length=0) (λw a=>(a.tail.join).bn (.tail _ (.tail _ (.tail _ (.tail _ (.tail _ (.head _))))))) λc=>
 G3 (p:=∀p∈z.ps,p.d.ok) (λw a=>bX.bH (a.tail.join).tail.tail.tail.tail.tail.tail) λd=>
 fX (λw a=>((a.swap).join).perm (qY)) (aq.mono (h c d) (λy=>y) (λ_ q=>q) (λ_ _=>rfl) (λy _ w a=>(((a.perm (qY).symm).nest).swap)))
theorem u7{W:World}{f:FuncId}{args:List Value}{b:Nat}{D:aw}{z:dN}{β:Type}{Ac:β->Prop}{rv:β->Value}{D':β->aw}{T:β->List ab}(h:(z.x.1=none->z.ps.length=0)->(∀p∈z.ps,p.d.ok)->∀R,aq W Tryz.prog f args (al b D::(z.L++R)) Ac rv (λy=>al b (D' y)::(T y++R))):iP W f args b D z.O Ac rv D' (λy=>Sl.star (T y)):=λR=>G7 λa c=>h a c R
structure dN.ok(z:dN)(n:Nat)(V:Nat->Nat->List UInt8):Prop where
  X:z.X.ok
  ro:z.X.ro=false
  r:z.X.r=ik z.r
  wp:z.X.w=ik z.w
  b:z.X.b=z.t.Y.b
  g:z.t.Y.m=z.X.m/\z.t.Y.c=z.X.c/\z.t.Y.s=z.X.s
  ring:z.X.ring=z.t.v.size
  t:z.t.ok n z.w (bU z.X) V
  wait:z.wait
  lz:z.X.lazy=z.t.Y.lazy
theorem Lj{W:World}{z:dN}{n:Nat}{V:Nat->Nat->List UInt8}(h:z.ok n V)(k q:Nat)(a:k+q<=z.X.s*z.X.c* (z.X.m-1)):
  iP W 60 [eE z.a,ii k,ii q] z.t.Y.b z.t.D z.O (β:=aw×Option Addr×Nat) (λy=>Bq y.1 n z.t.K z.t.c) (λy=>.tuple #[sliceB y.2 (kI z.X.m z.X.c V k q),i6 0]) (λy=>y.1) (λy=>Sl.star (b8 y.2 (kI z.X.m z.X.c V k q)::z.L)):=
 u7 λb c R=>fX ae.re (aq.mono (Lh (R:=dz z.X::bz z.w z.t.Y.b z.t.v::bL z.x z.ps::bX z.ps::R) z.a z.r z.X h.X h.r z.t.Y h.t.Y h.g.1 h.g.2.1 h.g.2.2 (bU z.X) h.t.F (dN.rd h.wait b c zm zm) h.t.q k q a) (λy=>y) (λ_ h=>h) (λ_ _=>rfl) (λy _=>ae.re))
def dN.wr(z:dN):Option Qp->dN
  |none=>z
  |some y=>{z with t:=y.t,x:=y.x,ps:=y.ps}
theorem Iy{W:World}{R:List ab}{z:dN}{n:Nat}{B:Nat->List UInt8}{l:List cQ}{ao:Option Addr}{cap:Nat}(h:z.ok n (fy z.t.Y.m z.t.Y.c B))(a:∀k row,k<z.t.Y.m->¬gB (bU z.X) k row)(g:l.length<=256)(i:iT W R ao l)(d:∀p∈l,p.dV<z.t.Y.s*z.t.Y.c* (z.t.Y.m-1))(c:∀b,b<z.t.Y.s*z.t.Y.c* (z.t.Y.m-1)->(B b).length=128)(f:z.t.c<=900000):
    aq W Tryz.prog 61 [eE z.a,.slice ao l.length cap] (al z.t.Y.b z.t.D::z.O::R) (β:=Option Qp) (Up z.t n z.w (bU z.X) B l) (λ_=>i6 (if z.t.v.size<2*dF z.t.Y.m z.t.Y.c l+1 then 122 else 0)) (λy=>al z.t.Y.b (z.wr y).t.D::Sl.star (z.wr y).L::R):=
  G7 λm o=>fX ae.re (aq.mono (IA (R:=dz z.X::bL z.x z.ps::bX z.ps::R) z.a z.r z.X h.X h.ro h.r h.g h.ring h.t a (dN.rd h.wait m o zm zm) g (i.aR (ae.drop (ae.drop (ae.drop ae.refl)))) d c f) (λy=>y) (λ_ h=>h) (λ_ _=>rfl) (λy j=>by
    cases y with
    |none=>exact ae.re
    |some y=>
      have e:y.t.Y.b=z.t.Y.b:=j.2.2.to.m.1;show ae W _ (al z.t.Y.b y.t.D::((z.wr (some y)).L++R));rw[<-e];exact ae.re))
abbrev Kq(z:dN)(x:Option Addr×Nat):ab:=Sl.Own 104 1 (.slice x.1 z.X.st.length x.2) z.X.st.length (bytes z.X.st)
theorem Fk{W:World}{z:dN}{n:Nat}{V:Nat->Nat->List UInt8}(h:z.ok n V):∀R,aq W Tryz.prog 23 [eE z.a] (z.O::R) (β:=Option Addr×Nat) (λ_=>True) (λx=>.agg (lP (vU.sup z.X x) false z.t.Y.wl.length z.t.v.used).toArray) (λx=>Sl.star (Kq z x::z.L)::R):=λR=>
 fX (λw a=>a.join) (fX ae.re (aq.mono (Fl (R:=Sl.Own 3 1 (.slice (ik z.t.Y.fa) z.t.Y.m z.t.Y.m) z.t.Y.m (j8 (bU z.X))::bL z.x z.ps::bX z.ps::R) z.a z.r z.w z.X h.ro h.r h.wp (by have:=h.X.st;have:=h.X.m;omega) z.t.Y z.t.v z.t.Y.b) (λy=>y) (λ_ h=>h) (λ_ _=>rfl) (λy _=>ae.trans (ae.re (L:=Kq z y::(z.L++R))) (λw a=>a.nest (L:=Kq z y::z.L)))))
def dN.fl(z:dN)(y:aw×Kd):dN:={z with t:={z.t with Y:=z.t.Y.done,D:=y.1,K:=y.2,kj:=(y.2 z.t.Y.m).getD z.t.kj,v:=z.t.v.emp,x:=⟨[],0,none⟩,base:=z.t.v.next,c:=z.t.c+z.t.Y.wl.length}}
theorem Ix{W:World}{z:dN}{n:Nat}{V:Nat->Nat->List UInt8}(h:z.ok n V)(a:z.t.c<=1000000):
  iP W 62 [eE z.a] z.t.Y.b z.t.D z.O (β:=aw×Kd) (λy=>(z.fl y).t.ok n z.w (bU z.X) V/\z.t.to (z.fl y).t) (λ_=>i6 0) (λy=>(z.fl y).t.D) (λy=>Sl.star (z.fl y).L):=
 u7 λi j R=>fX ae.re (aq.mono (Ip (R:=dz z.X::bL z.x z.ps::bX z.ps::R) z.a z.r z.X h.ro h.r z.t.Y h.t.Y h.t.w (bU z.X) h.t.uD (dN.rd h.wait i j zm zm) h.t.q a h.t.k h.t.slot h.t.live h.t.base (h.t.lO a)) (λy=>y) (λy g=>by
  obtain⟨f,kj',b,d,c⟩:=g;have e:(y.2 z.t.Y.m).getD z.t.kj=kj':=by rw[b];rfl
  unfold dN.fl;rw[e];exact h.t.pO a f b d c) (λ_ _=>rfl) (λy _=>ae.re))
end Go.Proofs.YtonpidcjpenflaaGreat
namespace Go.Proofs.YtonpidcjpenflaaGreat
open Go.RowKit Go.Sl
attribute [local irreducible] Sl.Own
section
variable{fr fr':List Int}{K K' K0:Kd}{V:Nat->Nat->List UInt8}{m rows n w c':Nat}{S:List (List bK)}{Y:eA}{X:aY}{t:iu}{D':aw}
theorem MC{v:bT}{k:ak}{base:Nat}{x:fY}{b:List UInt8}(h:dt v k base x)(f:b.length=128):dt v (kY b 2 k) base x:=by
 have e:kY b 2 k=⟨(full k.last k.cache).set 0 b,[],k.failed⟩:=by
  show(k.write 0 b).settle (λ_=>true)=_;rw[fM];show(⟨full k.last (k.cache++[(0,b)]),[],k.failed⟩:ak)=_;rw[jZ];rfl
 have d:=h.all.TF f;have a:∀L:qk,sf (L.set 0 b)=sf L:=λL=>funext λi=>by unfold sf;rw[HD zO]
 rw[e];refine⟨h.MM,h.live,h.used,h.next,KX.nil rfl (.inr d),d,h.Uv,λo=>⟨(h.sure o).1,rfl⟩,c7 _,h.MN,λl j=>?_⟩;obtain⟨c,a2,a3,a4,a5⟩:=h.RG l j;have g:=(h.sure c).2;refine⟨c,a2,a3,a4,?_⟩;dsimp only;rw[g,a];exact a5
theorem u6{i:Nat}{kd:ak}(e:K i=some kd):∃b,jF X K i=some b/\b.last.length=kd.last.length/\(∀a,a+1<kd.last.length->b.look (a+1)=kd.look (a+1))/\(∀a x,Sr kd (a+1) x->Sr b (a+1) x)/\((i=X.m\/(i<X.m/\X.st.getD i 2≠2))->0<kd.last.length->Sr b 0 (X.next.bytesOf i)):=by
 by_cases h:i=X.m\/(i<X.m/\X.st.getD i 2≠2)
 ·
  refine⟨kY (X.next.bytesOf i) 2 kd,by rw[pL X K h,e];rfl,qh _ _ _,λa c=>?_,λa x q=>q.kY,λ_ d=>Sr.SA _ d⟩;show((kd.write 0 _).settle λ_=>true).look (a+1)=_;rw[l9 (by exact c),lM,aE zO]
 · exact⟨kd,by rw[vY X K h];exact e,rfl,λ_ _=>rfl,λ_ _ q=>q,λq=>cN q h⟩
theorem CL{i:Nat}(e:K i=none):jF X K i=none:=by
 by_cases h:i=X.m\/(i<X.m/\X.st.getD i 2≠2)
 · rw[pL X K h,e];rfl
 · rw[vY X K h];exact e
theorem Data.Tb(h:Data Y fr K V)(X:aY):Data Y fr (jF X K) V:=
 ⟨h.len,h.one,h.mu,h.par,h.wait,λk row d f c=>by
  obtain⟨kd,e,l,g⟩:=h.is k row d f c;obtain⟨a,e',i,b,_⟩:=u6 (X:=X) e;have g2:=b row zO;rw[E7 row 1]at g2;exact⟨a,e',by omega,λq=>by rw[g2];exact g q⟩,h.y0,h.y4⟩
theorem vV.Tb(h:vV K fr m rows S V)(X:aY):vV (jF X K) fr m rows S V:=λk row kd f i d e=>by
  cases a:K k with
  |none=>rw[CL a]at e;cases e
  |some j=>
    obtain⟨l,e',_,_,g,_⟩:=u6 (X:=X) a;rw[e']at e;cases e;obtain⟨b,c⟩:=h k row j f i d a;exact⟨λq=>by have:=b q;rw[E7]at this⊢;exact g _ _ this,c⟩
theorem Data.sub(h:Data Y fr K V)(f:fr'.length=Y.m)(g:∀i j,i<Y.m->j<Y.m->fr'.getD i (-1)≠-1->fr'.getD j (-1)≠-1->i=j)(l:∀k row,k<Y.m->row<Y.s*Y.c->¬gB fr' k row->¬gB fr k row/\K' k=K k):Data Y fr' K' V:=
 ⟨f,g,h.mu,h.par,h.wait,λk row a b e=>by
  obtain⟨c,d⟩:=l k row a b e;rw[d];exact h.is k row a b c,h.y0,h.y4⟩
theorem vV.sub(h:vV K fr m rows S V)(g:∀k row,k<m->row<rows->¬gB fr' k row->¬gB fr k row/\K' k=K k):vV K' fr' m rows S V:=λk row kd a b f e=>by
 obtain⟨c,d⟩:=g k row a b f;exact h k row kd a b c (d▸e)
theorem iu.okz.Tb(h:t.okz w fr V)(X:aY)(g:X.m=t.Y.m)(b:Data t.Y fr' K0 V)(d:vV K0 fr' t.Y.m (t.Y.s*t.Y.c) t.x.cy V)(f:K0 t.Y.m=some t.kj)(e:(X.next.bytesOf t.Y.m).length=128)(a:t.c<=c'):
  ({t with D:=D',K:=jF X K0,kj:=kY (X.next.bytesOf t.Y.m) 2 t.kj,c:=c'}:iu).okz w fr' V:=
 ⟨⟨h.Y.m,h.Y.c,h.Y.s⟩,h.w,b.Tb X,h.nil,by dsimp only;rw[pL X K0 (.inl g.symm),f];rfl,h.slot,MC h.live e,h.base,qX h.ep a,qX h.nx a,h.mx,h.KU,d.Tb X,h.inr⟩
end
structure pK(X:aY)(k:Nat)(x:UInt8)(q:Nat):Prop where
  lt:k<X.m
  st:X.st=(List.replicate X.m 1).set k x
  cur:X.cur=q
  x:(x=1/\q=0)\/(x=2/\q=0)\/(x=3/\q<X.s)
section
variable{X:aY}{k q:Nat}{x:UInt8}
theorem pK.len(h:pK X k x q):X.st.length=X.m:=by rw[h.st,vD,j0]
theorem pK.get(h:pK X k x q){j:Nat}(a:j<X.st.length):X.st[j]=if j=k then x else 1:=by
 have e:X.st[j]?=some (if j=k then x else 1):=by
  rw[h.st,List.getElem?_set];by_cases e:k=j
  · rw[lam e,lam (by rw[j0];exact h.lt),lam e.symm]
  · rw[aE e,Og,lam (by have:=h.len;omega),aE λq=>e q.symm]
 rw[fL a]at e;exact CD e
theorem pK.getD(h:pK X k x q){j:Nat}(a:j<X.m):X.st.getD j 2=if j=k then x else 1:=by
 have b:=h.len;rw[List.getD_eq_getElem?_getD,fL zO,h.get zO];rfl
theorem pK.u4(h:pK X k x q):∀y∈X.st,y=1\/y=2\/y=3:=λy b=>by
 obtain⟨j,a,rfl⟩:=List.mem_iff_getElem.1 b;rw[h.get a];split
 ·
  rcases h.x with g|g|g
  · exact .inl g.1
  · exact .inr (.inl g.1)
  · exact .inr (.inr g.1)
 · exact .inl rfl
theorem pK.fr(h:pK X k x q)(j:Nat):(bU X).getD j (-1)=if j<X.m then(if j=k then nC X x else-1)else-1:=by
 have b:=h.len;unfold bU;rw[List.getD_eq_getElem?_getD,law];by_cases a:j<X.m
 ·
  rw[fL zO,h.get zO,lam a];show nC X _=_;split
  · rfl
  · rfl
 · rw[Ry zO,aE a];rfl
theorem pK.gB(h:pK X k x q)(j row:Nat):gB (bU X) j row↔j=k/\x≠1/\(x=3->q*X.c<=row):=by
 have f:=h.lt;unfold Go.Proofs.YtonpidcjpenflaaGreat.gB;rw[h.fr];constructor
 ·
  intro⟨a,b⟩;split at a
  ·
   rename_i g;rw[lam g]at b;split at a
   ·
    rename_i e;rw[lam e]at b;refine⟨e,λc=>a (by rw[c];rfl),λd=>?_⟩;rw[d]at b;have b:((X.cur*X.c:Nat):Int)<=row:=b;rw[h.cur]at b;exact Int.ofNat_le.1 b
   · exact cN rfl a
  · exact cN rfl a
 ·
  rintro⟨rfl,a,b⟩;rw[lam f,lam rfl];rcases h.x with g|g|g
  · exact cN g.1 a
  · rw[g.1];exact⟨by show(0:Int)≠-1;decide,by show(0:Int)<=row;omega⟩
  ·
   rw[g.1];have e:nC X 3=((q*X.c:Nat):Int):=by rw[<-h.cur];rfl
   rw[e];exact⟨by omega,Int.ofNat_le.2 (b g.1)⟩
theorem pK.one(h:pK X k x q){i:Nat}(e:(bU X).getD i (-1)≠-1):i=k:=by
 rw[h.fr]at e;split at e
 ·
  split at e
  · assumption
  · exact cN rfl e
 · exact cN rfl e
theorem pK.put(h:pK X k x q)(y:UInt8)(a:Nat)(b:(y=1/\a=0)\/(y=2/\a=0)\/(y=3/\a<X.s)):pK (X.put k y a) k y a:=
 ⟨h.lt,by show X.st.set k y=_;rw[h.st,List.set_set],rfl,b⟩
theorem pK.up(h:pK X k 1 0){j:Nat}(a:j<X.m):pK X j 1 0:=⟨a,by
 rw[h.st]
 refine BF (by rw[vD,vD]) λi b c=>?_
 rw[List.getElem_set,List.getElem_set,List.getElem_replicate,ite_self,ite_self],h.cur,.inl ⟨rfl,rfl⟩⟩
theorem pK.all(h:pK X k 1 0):∀y∈X.st,y=1:=λy b=>by
 obtain⟨j,a,rfl⟩:=List.mem_iff_getElem.1 b;rw[h.get a,ite_self]
theorem pK.aX(h:pK X k x q):qR X.st X.st.length:=λj c _=>by
 have e:=h.get c;have o:x=1\/x=2\/x=3:=by rcases h.x with g|g|g;exact .inl g.1;exact .inr (.inl g.1);exact .inr (.inr g.1)
 have d:X.st[j]=1\/X.st[j]=2\/X.st[j]=3:=h.u4 _ (fF c);refine⟨by rcases d with g|g|g<;>rw[g]<;>decide,by rcases d with g|g|g<;>rw[g]<;>decide,λa m3=>?_⟩;obtain⟨i,f,b⟩:=List.mem_iff_getElem.1 m3;rw[j1]at f;rw[List.getElem_take,h.get zO]at b;rw[e]at a;by_cases l:j=k
 · rw[aE zO]at b;exact cN b (by decide)
 · rw[aE l]at a;exact cN a (by decide)
theorem pK.LR(h:pK X k x q)(c:1<=X.s):(X.cur:Int)<=if(3:UInt8)∈X.st then(X.s:Int)-1 else 0:=by
 have b:=h.len;have a:=h.lt;rw[h.cur];rcases h.x with g|g|g
 · split<;>omega
 · split<;>omega
 ·
  rw[lam]
  · omega
  ·
   have:=fF (l:=X.st) (n:=k) zO;rw[h.get zO,lam rfl,g.1]at this;exact this
end
structure Rest(z:dN)(n:Nat)(V:Nat->Nat->List UInt8)(k:Nat)(x:UInt8)(q E C:Nat):Prop where
  ok:z.ok n V
  n:n=z.X.m+1
  ring:5<=z.X.ring/\z.X.ring<=2048
  id:z.X.id<18446744073709551616
  ev:1<=z.X.ev/\z.X.ev<=E
  sf:1<=z.X.sf/\z.X.sf<=z.X.ev
  cap:z.X.st.length<=z.X.sc
  c:z.t.c<=C
  lost:z.X.lost=false
  sh:pK z.X k x q
  len:∀i,i<z.X.m->z.X.st.getD i 2≠2->∃kd,z.t.K i=some kd/\1+z.X.s*z.X.c<=kd.last.length
  SS:∃sf,(1<=sf/\sf<=z.X.ev)/\∀i,i<=z.X.m->i=z.X.m\/z.X.st.getD i 2≠2->∃kd,z.t.K i=some kd/\Sr kd 0 (aY.bytesOf {z.X with sf:=sf} i)
section
variable{z:dN}{n k q E C:Nat}{V:Nat->Nat->List UInt8}{x y:UInt8}
theorem Rest.Th(h:Rest z n V k x q E C):∃kd,z.t.K z.X.m=some kd/\0<kd.last.length:=
 ⟨z.t.kj,h.ok.g.1▸h.ok.t.k,oU h.ok.t.live⟩
theorem Rest.mL(h:Rest z n V k x q E C)(s:E<4611686018427387904){X:aY}{j p:Nat}(a:pK X j y p)(e:X.m=z.X.m/\X.c=z.X.c/\X.s=z.X.s/\X.ring=z.X.ring/\X.id=z.X.id/\X.ev=z.X.ev/\X.sf=z.X.sf/\X.sc=z.X.sc):Ba X.next:=by
 obtain⟨c,d,f,g,i,l,o,r⟩:=e;have F:=h.ok.X.m;have u:=h.ok.X.c;have I:=h.ok.X.s;have D:=h.ok.X.st;have H:=h.ring;have B:=h.id;have v:=h.ev;have A:=h.sf;have b:=h.cap;have G:=a.cur;have J:=a.x;refine⟨⟨by show 3<=X.m/\X.m<=16;omega,by show 1<=X.c/\X.c<=16;omega,by show 1<=X.s/\X.s<=256;omega,a.len,a.u4,by show X.cur<=255;omega⟩,by show 5<=X.ring/\X.ring<=2048;omega,by show X.id<_;omega,by show 1<=X.ev+1/\X.ev+1<=_;omega,by show 1<=X.sf/\X.sf<=X.ev+1;omega,a.aX,a.LR zO,by show X.st.length<=X.sc;rw[a.len];omega⟩
theorem Rest.tell(h:Rest z n V k x q E C)(M:E<4611686018427387904){X:aY}{t:iu}{K0:Kd}{D':aw}{p c' G:Nat}(r:pK X k y p)(b:X={z.X with st:=X.st,cur:=X.cur})(H:t.Y.b=z.t.Y.b/\t.Y.lazy=z.t.Y.lazy)(em:t.Y.m=z.t.Y.m/\t.Y.c=z.t.Y.c/\t.Y.s=z.t.Y.s)(N9:t.v.size=z.t.v.size)(L:t.okz z.w (bU z.X) V)(U:(t.Y.wo=none/\t.Y.wl=[])\/(t.Y.wo=z.x.1/\t.Y.wl=z.ps))
  (N:Data t.Y (bU X) K0 V)(O:vV K0 (bU X) t.Y.m (t.Y.s*t.Y.c) t.x.cy V)(J:K0 t.Y.m=some t.kj)(f:∀i,i<z.X.m->X.st.getD i 2≠2->∃kd,K0 i=some kd/\1+z.X.s*z.X.c<=kd.last.length)(R:Bq D' n (jF X K0) c')(P:t.c<=c')(A:c'<=G):
  Rest {z with X:=X.told,t:={t with D:=D',K:=jF X K0,kj:=kY (X.next.bytesOf t.Y.m) 2 t.kj,c:=c'}} n V k y p (E+1) G:=by
 have f1:X.m=z.X.m:=by rw[b]
 have f2:X.c=z.X.c:=by rw[b]
 have f3:X.s=z.X.s:=by rw[b]
 have f4:X.ring=z.X.ring:=by rw[b]
 have f5:X.id=z.X.id:=by rw[b]
 have f6:X.ev=z.X.ev:=by rw[b]
 have f7:X.sf=z.X.sf:=by rw[b]
 have f8:X.sc=z.X.sc:=by rw[b]
 have f9:X.ro=z.X.ro:=by rw[b]
 have f10:X.r=z.X.r:=by rw[b]
 have f11:X.w=z.X.w:=by rw[b]
 have f12:X.b=z.X.b:=by rw[b]
 have j:=h.mL M r ⟨f1,f2,f3,f4,f5,f6,f7,f8⟩;have F:=h.ok.g;have d:X.m=t.Y.m:=by rw[f1,em.1];exact F.1.symm
 have a:=j.ok;have Q:=h.ev;have T:=h.sf;have I:=h.cap;have W:=h.ok.X.st;have B:bU X.told=bU X:=rfl;have f14:X.lazy=z.X.lazy:=by rw[b]
 have f13:X.lost=z.X.lost:=by rw[b]
 refine⟨⟨⟨a.m,a.c,a.s,a.st,a.u4,a.cur⟩,f9.trans h.ok.ro,f10.trans h.ok.r,f11.trans h.ok.wp,f12.trans (h.ok.b.trans H.1.symm),⟨d.symm,(em.2.1.trans F.2.1).trans f2.symm,(em.2.2.trans F.2.2).trans f3.symm⟩,f4.trans (h.ok.ring.trans N9.symm),⟨B.symm▸L.Tb (D':=D') X d N O J (pf j (k:=t.Y.m) (by rw[<-d];exact eI _)).2.2.2 P,R⟩,U,f14.trans (h.ok.lz.trans H.2.symm)⟩,?_,?_,?_,?_,?_,?_,A,f13.trans h.lost,⟨r.lt,r.st,r.cur,r.x⟩,λi u s=>?_,⟨X.sf,?_,λi u s=>?_⟩⟩
 · rw[show X.told.m=z.X.m from f1];exact h.n
 · rw[show X.told.ring=z.X.ring from f4];exact h.ring
 · rw[show X.told.id=z.X.id from f5];exact h.id
 · show 1<=X.ev+1/\X.ev+1<=E+1;omega
 · show 1<=X.ev+1/\X.ev+1<=X.ev+1;omega
 · show X.st.length<=X.sc;rw[r.len];omega
 ·
  obtain⟨kd,e,l⟩:=f i (by rw[<-f1];exact u) s;obtain⟨o,e',Z,_⟩:=u6 (X:=X) e;exact⟨o,e',by show 1+X.s*X.c<=_;rw[f2,f3];omega⟩
 · show 1<=X.sf/\X.sf<=X.ev+1;omega
 ·
  have u:i<=X.m:=u;have s:i=X.m\/X.st.getD i 2≠2:=s;have v:i=X.m\/(i<X.m/\X.st.getD i 2≠2):=by rcases s with g|g;exact .inl g;exact(Nat.lt_or_eq_of_le u).elim (λx=>.inr ⟨x,g⟩) .inl
  have⟨kd,e,l⟩:∃kd,K0 i=some kd/\0<kd.last.length:=by
   rcases v with g|g
   · exact⟨t.kj,by rw[g,d];exact J,oU L.live⟩
   ·
    obtain⟨kd,e,l⟩:=f i (by rw[<-f1];exact g.1) g.2;exact⟨kd,e,by omega⟩
  obtain⟨o,e',_,_,_,g⟩:=u6 (X:=X) e;exact⟨o,e',g v l⟩
def dN.TT(z:dN)(k:Nat)(D':aw):dN:={z with X:=(z.X.put k 2 0).told,t:={z.t with D:=D',K:=jF (z.X.put k 2 0) (del z.t.K k),kj:=kY ((z.X.put k 2 0).next.bytesOf z.t.Y.m) 2 z.t.kj,c:=z.t.c+40}}
theorem Rest.fail(h:Rest z n V k 1 0 E C)(B:E<4611686018427387904):
  iS (z.X.put k 2 0) (del z.t.K k) n/\(∃kd,z.t.K k=some kd)/\(∀D',Bq D' n (jF (z.X.put k 2 0) (del z.t.K k)) (z.t.c+40)->Rest (z.TT k D') n V k 2 0 (E+1) (C+40))/\∀D',(z.TT k D').t.K k=none:=by
 have c:pK (z.X.put k 2 0) k 2 0:=h.sh.put 2 0 (.inr (.inl ⟨rfl,rfl⟩));have D:=h.sh.lt;have u:=h.ok.g.1;have G:=h.c;have d:∀i,i<z.X.m->(z.X.put k 2 0).st.getD i 2≠2->∃kd,del z.t.K k i=some kd/\1+z.X.s*z.X.c<=kd.last.length:=λi p o=>by
  rw[c.getD p]at o;have v:i≠k:=λe=>o (lam e);obtain⟨kd,e,l⟩:=h.len i p (by rw[h.sh.getD p,ite_self];decide);exact⟨kd,by unfold del;rw[aE v];exact e,l⟩
 have f:∀j row,j<z.t.Y.m->row<z.t.Y.s*z.t.Y.c->¬gB (bU (z.X.put k 2 0)) j row->¬gB (bU z.X) j row/\del z.t.K k j=z.t.K j:=λj row _ _ o=>by
  rw[c.gB]at o;have A:j≠k:=λe=>o ⟨e,by decide,λq=>cN q (by decide)⟩;exact⟨λg=>by rw[h.sh.gB]at g;exact g.2.1 rfl,by unfold del;rw[aE A]⟩
 have s:del z.t.K k z.t.Y.m=some z.t.kj:=by unfold del;rw[aE zO];exact h.ok.t.k
 refine⟨?_,?_,λD' F=>?_,λD'=>?_⟩
 ·
  rw[h.n];refine Ba.xn (h.mL B c ⟨rfl,rfl,rfl,rfl,rfl,rfl,rfl,rfl⟩) ⟨z.t.kj,by rw[show(z.X.put k 2 0).m=z.t.Y.m from u.symm];exact s,oU h.ok.t.live⟩ λi p o=>?_;have r:i<z.X.m:=by have:=c.len;rw[<-show(z.X.put k 2 0).m=z.X.m from rfl];omega
  obtain⟨kd,e,l⟩:=d i r (by rw[c.getD r,<-c.get p];exact o);exact⟨kd,e,by omega⟩
 ·
  obtain⟨kd,e,_⟩:=h.len k D (by rw[h.sh.getD D,ite_self];decide);exact⟨kd,e⟩
 · exact h.tell B c rfl ⟨rfl,rfl⟩ ⟨rfl,rfl,rfl⟩ rfl h.ok.t.tookz h.ok.wait (h.ok.t.F.sub (by unfold bU;rw[ew,c.len];exact u.symm) (λi j _ _ a b=>(c.one a).trans (c.one b).symm) f) (h.ok.t.stay.sub f) s d F (Nat.le_add_right _ _) zO
 ·
  refine CL ?_;unfold del;rw[lam rfl]
abbrev dN.swp(z:dN)(k:Nat)(D':aw):dN:={z with t:={z.t with D:=D',K:=ez z.t.K k (.blank (1+z.X.s*z.X.c))}}
theorem Rest.swap(h:Rest z n V k 2 0 E C)(r:z.t.K k=none):∃D',z.t.D.swap (k:Int) ((1+z.X.s*z.X.c:Nat):Int)=(0,D')/\Rest (z.swp k D') n V k 2 0 E C:=by
 have o:=h.sh.lt;have p:=h.ok.X;have A:z.X.s*z.X.c<=256*16:=mo p.s.2 p.c.2;obtain⟨D',e,u⟩:=h.ok.t.q.swap (i:=k) (by have:=h.n;omega) r (z:=1+z.X.s*z.X.c) zO zO;have s:=h.ok.g.1
 have c:∀j row,j<z.t.Y.m->row<z.t.Y.s*z.t.Y.c->¬gB (bU z.X) j row->¬gB (bU z.X) j row/\ez z.t.K k (.blank (1+z.X.s*z.X.c)) j=z.t.K j:=λj row _ _ b=>
  ⟨b,dH _ _ λe=>b ((h.sh.gB j row).2 ⟨e,by decide,λq=>cN q (by decide)⟩)⟩
 have f:∀i,i<=z.X.m->i=z.X.m\/z.X.st.getD i 2≠2->ez z.t.K k (.blank (1+z.X.s*z.X.c)) i=z.t.K i:=λi d b=>dH _ _ λe=>by
  rcases b with g|g
  · omega
  · rw[e,h.sh.getD o,lam rfl]at g;exact g rfl
 have a:=h.ok.t;refine⟨D',e,⟨⟨h.ok.X,h.ok.ro,h.ok.r,h.ok.wp,h.ok.b,h.ok.g,h.ok.ring,⟨⟨a.Y,a.w,a.F.sub a.F.len a.F.one c,a.nil,by dsimp only;rw[dH _ _ zO];exact a.k,a.slot,a.live,a.base,a.ep,a.nx,a.mx,a.KU,a.stay.sub c,a.inr⟩,u⟩,h.ok.wait,h.ok.lz⟩,h.n,h.ring,h.id,h.ev,h.sf,h.cap,h.c,h.lost,h.sh,λi d b=>?_,?_⟩⟩
 ·
  obtain⟨kd,e,l⟩:=h.len i d b;exact⟨kd,by dsimp only;rw[f i (Nat.le_of_lt d) (.inr b)];exact e,l⟩
 ·
  obtain⟨sf,v,g⟩:=h.SS;refine⟨sf,v,λi d b=>?_⟩;obtain⟨kd,e,l⟩:=g i d b;exact⟨kd,by dsimp only;rw[f i d b];exact e,l⟩
def dN.rep(z:dN)(k:Nat)(y:aw×Kd):dN:={z with X:=(z.X.put k 3 0).told,t:={z.t with Y:=z.t.Y.done,D:=y.1,K:=jF (z.X.put k 3 0) y.2,kj:=kY ((z.X.put k 3 0).next.bytesOf z.t.Y.m) 2 ((y.2 z.t.Y.m).getD z.t.kj),v:=z.t.v.emp,x:=⟨[],0,none⟩,base:=z.t.v.next,c:=z.t.c+z.t.Y.wl.length+40}}
theorem Rest.replace{kd:ak}(h:Rest z n V k 2 0 E C)(G:E<4611686018427387904)(u:z.t.K k=some kd)(A:1+z.X.s*z.X.c<=kd.last.length):
  iS (z.X.put k 3 0) z.t.K n/\∀y:aw×Kd,(Bq y.1 n (jF (z.X.put k 3 0) y.2) (z.t.c+z.t.Y.wl.length+40)/\∃kj',y.2 z.t.Y.m=some kj'/\dt z.t.v.emp kj' z.t.v.next ⟨[],0,none⟩/\lQ (bU z.X) z.t.Y z.t.K y.2 z.t.kj kj')->Rest (z.rep k y) n V k 3 0 (E+1) (C+1063):=by
 have Q:=h.sh.lt;have B:=h.ok.g.1;have R:=h.ok.X.s;have o:pK (z.X.put k 3 0) k 3 0:=h.sh.put 3 0 (.inr (.inr ⟨rfl,by omega⟩));have P:=h.c;have I:=h.ok.t.mx;have d:∀i,i<z.X.m->∃kd,z.t.K i=some kd/\1+z.X.s*z.X.c<=kd.last.length:=λi p=>by
  by_cases e:i=k
  · exact⟨kd,by rw[e];exact u,A⟩
  · exact h.len i p (by rw[h.sh.getD p,aE e];decide)
 refine⟨?_,λy ⟨N,kj',J,M,s⟩=>?_⟩
 ·
  rw[h.n];refine Ba.xn (h.mL G o ⟨rfl,rfl,rfl,rfl,rfl,rfl,rfl,rfl⟩) h.Th λi p H=>?_;obtain⟨kd,e,l⟩:=d i (by have:=o.len;rw[<-show(z.X.put k 3 0).m=z.X.m from rfl];omega);exact⟨kd,e,by omega⟩
 ·
  obtain⟨r,t2⟩:=h.ok.t.tookz.pO (D':=y.1) M s
  have f:∀j row,j<z.t.Y.done.m->row<z.t.Y.done.s*z.t.Y.done.c->¬gB (bU (z.X.put k 3 0)) j row->¬gB (bU z.X) j row/\y.2 j=y.2 j:=λj row _ _ H=>
   ⟨λg=>by rw[h.sh.gB]at g;exact H ((o.gB j row).2 ⟨g.1,by decide,λ_=>by rw[Nat.zero_mul];exact c7 _⟩),rfl⟩
  have L:(y.2 z.t.Y.m).getD z.t.kj=kj':=by rw[J];rfl
  unfold dN.rep;rw[L];exact h.tell (t:={z.t with Y:=z.t.Y.done,D:=y.1,K:=y.2,kj:=kj',v:=z.t.v.emp,x:=⟨[],0,none⟩,base:=z.t.v.next,c:=z.t.c+z.t.Y.wl.length}) G o rfl ⟨rfl,rfl⟩ ⟨rfl,rfl,rfl⟩ rfl r (.inl ⟨rfl,rfl⟩) (r.F.sub (by unfold bU;rw[ew,o.len];exact B.symm) (λi j _ _ a b=>(o.one a).trans (o.one b).symm) f) (r.stay.sub f) J (λi p _=>by
   obtain⟨kd,e,l⟩:=d i p;obtain⟨F,e',O,_⟩:=t2.z i kd e;exact⟨F,e',by rw[O (show i≠z.t.Y.m by omega)];exact l⟩) N (Nat.le_add_right _ _) zO
end
end Go.Proofs.YtonpidcjpenflaaGreat
namespace Go.Proofs.YtonpidcjpenflaaGreat
open Go.RowKit Go.Sl
attribute [local irreducible] Sl.Own
theorem z8(V:Nat->Nat->List UInt8)(kd:ak)(k row a:Nat):∀i,(kd.writes (ku V k row i)).look (1+a)=if row<=a/\a<row+i then V k a else kd.look (1+a)
  |0=>by rw[aE (by omega),show ku V k row 0=[]from rfl,iB]
  |i+1=>by
    rw[wR,lM,z8 V kd k row a i];by_cases e:a=row+i
    · rw[lam (by omega),lam (by omega),e]
    · rw[aE (by omega)]
      by_cases g:row<=a/\a<row+i
      · rw[lam g,lam (by omega)]
      · rw[aE g,aE (by omega)]
structure dN.calm(z:dN):Prop where
  wl:z.t.Y.wl=[]
  cy:z.t.x.cy=[]
  sure:z.t.v.sure=true
section
variable{z:dN}{n k q E C:Nat}{V:Nat->Nat->List UInt8}{x:UInt8}
def RR(s q:Nat):UInt8:=if q+1=s then 1 else 3
def RQ(s q:Nat):Nat:=if q+1=s then 0 else q+1
theorem pK.fz{X:aY}(h:pK X k 3 q):pK (X.fz k) k (RR X.s q) (RQ X.s q):=by
 have a:=h.x;have b:q<X.s:=by rcases a with g|g|g;exact cN g.1 (by decide);exact cN g.1 (by decide);exact g.2
 unfold aY.fz RR RQ;rw[h.cur];split
 · exact⟨h.lt,by show X.st.set k 1=_;rw[h.st,List.set_set],rfl,.inl ⟨rfl,rfl⟩⟩
 · exact⟨h.lt,h.st,by show X.cur+1=_;rw[h.cur],.inr (.inr ⟨rfl,by show q+1<X.s;omega⟩)⟩
def dN.fz(z:dN)(V:Nat->Nat->List UInt8)(k:Nat)(y:aw×ak):dN:={z with X:=(z.X.fz k).told,t:={z.t with D:=y.1,K:=jF (z.X.fz k) (iZ V k (z.X.cur*z.X.c) z.X.c (ez z.t.K z.t.Y.m y.2)),kj:=kY ((z.X.fz k).next.bytesOf z.t.Y.m) 2 y.2,v:=z.t.v.rr,x:=z.t.x.jl 3 [],c:=z.t.c+60}}
theorem Rest.step(h:Rest z n V k 3 q E C)(J:z.calm)(R:E<4611686018427387904):
  iS (z.X.fz k) z.t.K n/\∀y:aw×ak,(Bq y.1 n (jF (z.X.fz k) (iZ V k (z.X.cur*z.X.c) z.X.c (ez z.t.K z.t.Y.m y.2))) (z.t.c+60)/\dt z.t.v.rr y.2 z.t.base (z.t.x.jl 3 []))->Rest (z.fz V k y) n V k (RR z.X.s q) (RQ z.X.s q) (E+1) (C+60)/\(z.fz V k y).calm:=by
 have Y:=h.sh.lt;have P:=h.ok.g.1;have M:=h.ok.g.2.1;have Q:=h.ok.g.2.2;have r:=h.sh.fz;have F:=h.sh.cur;have hc:=h.c;have hq:q<z.X.s:=by rcases h.sh.x with g|g|g;exact cN g.1 (by decide);exact cN g.1 (by decide);exact g.2
 have W:z.X.fz k={z.X with st:=(z.X.fz k).st,cur:=(z.X.fz k).cur}:=by unfold aY.fz;split<;>rfl
 have p:∀i,i<z.X.m->∃kd,z.t.K i=some kd/\1+z.X.s*z.X.c<=kd.last.length:=λi G=>h.len i G (by rw[h.sh.getD G];split<;>decide);have f:(z.X.fz k).m=z.X.m/\(z.X.fz k).c=z.X.c/\(z.X.fz k).s=z.X.s/\(z.X.fz k).ring=z.X.ring/\(z.X.fz k).id=z.X.id/\(z.X.fz k).ev=z.X.ev/\(z.X.fz k).sf=z.X.sf/\(z.X.fz k).sc=z.X.sc:=by unfold aY.fz;split<;>exact⟨rfl,rfl,rfl,rfl,rfl,rfl,rfl,rfl⟩
 refine⟨?_,λy ⟨L,Z⟩=>⟨?_,J.wl,?_,rfl⟩⟩
 ·
  rw[h.n,<-f.1];refine Ba.xn (h.mL R r f) (by rw[f.1];exact h.Th) λi G o=>?_;obtain⟨kd,e,l⟩:=p i (by have:=r.len;have:=f.1;omega);exact⟨kd,e,by omega⟩
 ·
  have X:=h.ok.t.tookz.jr (D':=y.1) (v':=z.t.v.rr) (x':=z.t.x.jl 3 []) (b':=z.t.base) rfl Z h.ok.t.base h.ok.t.ep h.ok.t.nx h.ok.t.stay h.ok.t.inr;have S:(q+1)*z.X.c=q*z.X.c+z.X.c:=Nat.succ_mul q z.X.c;have key:∀j row,j<z.t.Y.m->row<z.t.Y.s*z.t.Y.c->¬gB (bU (z.X.fz k)) j row->∃kd,iZ V k (z.X.cur*z.X.c) z.X.c (ez z.t.K z.t.Y.m y.2) j=some kd/\1+z.t.Y.s*z.t.Y.c<=kd.last.length/\Sr kd (1+row) (V j row):=λj row H u o=>by
   obtain⟨kd,e,l⟩:=p j zO;have B:ez z.t.K z.t.Y.m y.2 j=some kd:=by rw[dH _ _ zO];exact e
   have I:¬gB (bU z.X) j row->Sr kd (1+row) (V j row):=λg=>(h.ok.t.stay j row kd H u g e).1 (by rw[J.cy];rfl);rw[r.gB]at o;rw[M,Q]at u⊢;by_cases A:j=k
   ·
    have T:row<(q+1)*z.X.c:=by
     refine Nat.lt_of_not_le λg=>?_;unfold RR RQ at o;by_cases es:q+1=z.X.s
     · rw[es]at g;omega
     ·
      rw[aE es,aE es]at o;exact o ⟨A,by decide,λ_=>by rw[f.2.1];exact g⟩
    refine⟨(kd.writes (ku V k (z.X.cur*z.X.c) z.X.c)).settle λ_=>true,by unfold iZ;rw[lam A,B];rfl,by rw[dM];exact l,?_⟩;have O:(kd.writes (ku V k (z.X.cur*z.X.c) z.X.c)).look (1+row)=V j row:=by
     rw[z8,F];by_cases g:q*z.X.c<=row/\row<q*z.X.c+z.X.c
     · rw[lam g,A]
     ·
      rw[aE g];refine(I λg2=>?_).look;rw[h.sh.gB]at g2;have:=g2.2.2 rfl;omega
    have:=Sr.vB (k:=kd.writes (ku V k (z.X.cur*z.X.c) z.X.c)) (a:=1+row) (by show 1+row<kd.last.length;omega);rwa [O]at this
   · exact⟨kd,by unfold iZ;rw[aE A];exact B,l,I λg=>by rw[h.sh.gB]at g;exact A g.1⟩
  have N:iZ V k (z.X.cur*z.X.c) z.X.c (ez z.t.K z.t.Y.m y.2) z.t.Y.m=some y.2:=by unfold iZ;rw[aE zO];exact eZ _ _ _
  refine h.tell (t:={z.t with D:=y.1,K:=ez z.t.K z.t.Y.m y.2,kj:=y.2,v:=z.t.v.rr,x:=z.t.x.jl 3 []}) R r W ⟨rfl,rfl⟩ ⟨rfl,rfl,rfl⟩ rfl X h.ok.wait ⟨by unfold bU;rw[ew,r.len,f.1];exact P.symm,λi j _ _ a b=>(r.one a).trans (r.one b).symm,h.ok.t.F.mu,h.ok.t.F.par,h.ok.t.F.wait,λj row H u o=>?_,h.ok.t.F.y0,h.ok.t.F.y4⟩ (λj row kd H u o e=>?_) N (λi G _=>?_) L (Nat.le_add_right _ _) zO
  ·
   obtain⟨kd,e,l,g⟩:=key j row H u o;exact⟨kd,e,l,λ_=>g.look⟩
  ·
   obtain⟨aa,e',l,g⟩:=key j row H u o;rw[e']at e;cases e;have U:(z.t.x.jl 3 []).cy=[]:=J.cy;exact⟨λ_=>g,λd o=>by dsimp only at o;rw[U]at o;cases o⟩
  ·
   obtain⟨kd,e,l⟩:=p i G;have B:ez z.t.K z.t.Y.m y.2 i=some kd:=by rw[dH _ _ zO];exact e
   unfold iZ;split
   · exact⟨_,by rw[B];rfl,by rw[dM];exact l⟩
   · exact⟨kd,B,l⟩
 · exact J.cy
theorem wz:∀ls:List (List bK),2*ls.flatten.length+ls.length=bu ls
 |[]=>rfl
 |l::r=>by have:=wz r;rw[fQ,List.flatten_cons,c9,tc];omega
theorem Rest.Um(h:Rest z n V k x q E C)(b:E<4611686018427387904){sf:Nat}(a:1<=sf/\sf<=z.X.ev):Ba {z.X with sf:=sf}:=by
 have c:=h.ev;exact⟨⟨h.ok.X.m,h.ok.X.c,h.ok.X.s,h.ok.X.st,h.ok.X.u4,h.ok.X.cur⟩,h.ring,h.id,by show 1<=z.X.ev/\z.X.ev<=_;omega,a,h.sh.aX,(h.sh.LR h.ok.X.s.1),h.cap⟩
theorem Rest.UB(h:Rest z n V k x q E C)(hx:x≠2)(T:z.t.v.sure=true)(hE:E<4611686018427387904)(f:Nat->Nat->Bool):∃P:aY,∃sf,P={z.X with sf:=sf}/\(1<=sf/\sf<=z.X.ev)/\QQ P n z.t.c (λi=>(z.t.K i).map λk=>k.settle (f i)) (z.t.kj.settle (f z.t.Y.m)) z.t.v.epoch z.t.base z.t.v.tail z.t.x.cy V:=by
  obtain⟨sf,hs,H⟩:=h.SS;have t:=h.ok.g.1;have B:=h.ok.g.2.1;have D:=h.ok.g.2.2;have o:=h.Um hE hs;have an:=h.ok.X.m;have hl:=h.ok.X.st;have he:=h.ev;have A:∀i,i<z.X.m->z.X.st.getD i 2≠2:=λi c=>by
    rw[h.sh.getD c];split
    · exact hx
    · decide
  have m:z.t.kj.cache=[]:=(h.ok.t.live.sure T).2;have Y:z.t.kj.settle (f z.t.Y.m)=z.t.kj:=by
    unfold ak.settle;rw[m];show(⟨z.t.kj.last,[],z.t.kj.failed⟩:ak)=z.t.kj;rw[<-m]
  have y:=h.ok.t.live.rep T;have I:=y.uZ;have W:=I.cost;have ag:=y.bnd;have X:=wz z.t.x.cy;have Z:=h.ok.t.live.next;have av:=h.ok.t.live.len;have K:=h.ok.ring;have d:∀i,i<=z.X.m->∃kd:ak,z.t.K i=some kd/\(if i+1=n then 2+z.X.ring else 1+z.X.s*z.X.c)<=kd.last.length/\Sr kd 0 (aY.bytesOf {z.X with sf:=sf} i):=λi c=>by
    have R:=h.n;by_cases e:i=z.X.m
    · obtain⟨kd,u,g⟩:=H i c (.inl e)
      have M:z.t.K i=some z.t.kj:=by rw[e,<-t];exact h.ok.t.k
      rw[M]at u;cases u
      exact⟨z.t.kj,M,by rw[lam zO];omega,g⟩
    · obtain⟨kd,u,g⟩:=H i c (.inr (A i zO))
      obtain⟨ba,M,l⟩:=h.len i zO (A i zO)
      rw[u]at M;cases M
      exact⟨kd,u,by rw[aE zO];exact l,g⟩
  have G:∀i,(0:Nat)<if i+1=n then 2+z.X.ring else 1+z.X.s*z.X.c:=λi=>by split<;>omega
  refine⟨_,sf,rfl,hs,⟨o.ok,h.n,h.ring,λl au hb=>?_,λi c=>?_,λi c=>?_,?_,rfl,?_,h.ok.t.base,⟨h.ok.t.ep,by rw[<-Z];exact h.ok.t.nx⟩,by show z.X.ev<_;omega,?_,⟨by omega,?_⟩,?_,?_,?_,λi j c v a b=>?_,λb so sc r w aa=>?_⟩⟩
  · have each:∀i (c:i<l.length),l[i].has=true/\l[i].s.bare={TJ {z.X with sf:=sf}with role:=(i:Int),so:=none,sc:=0}:=λi c=>by
      have R:=h.n;obtain⟨L,u,hB⟩:=hb i c;obtain⟨kd,e,Q,ad⟩:=d i zO;rw[e]at u;have u:=CD u;have J:L.look 0=cE (aY.mL {z.X with sf:=sf} i).body:=by
        rw[<-u];exact(ad.settle (f i)).look.trans (lcs Prod.snd (lam (pf o (k:=i) (by show i<=z.X.m;omega)).2.1:(aY.mL {z.X with sf:=sf} i).enc=_))
      obtain⟨q1,q2,_,_⟩:=pf o (k:=i) (by show i<=z.X.m;omega);have N:jg (L.look 0)=(0,(aY.mL {z.X with sf:=sf} i).hold (none,0) z.X.st):=by
        rw[J];exact Ke q2 (Gg q1 q2)
      have F:CS n i L=(true,(aY.mL {z.X with sf:=sf} i).hold (none,0) z.X.st):=by
        unfold CS;rw[N,lam];refine⟨rfl,?_⟩;unfold Ao;rw[<-u,dM];split
        · rename_i g;rw[lam g]at Q;show(2:Int)+(z.X.ring:Int)<=_;omega
        · rename_i g;rw[aE g]at Q;show(1:Int)+(z.X.s:Int)* (z.X.c:Int)<=_;rw[<-Int.natCast_mul];omega
      refine⟨by rw[hB.has,F],?_⟩;rw[hB.s,F];show(aY.mL {z.X with sf:=sf} i).hold (none,0) z.X.st=_;unfold ai.hold;dsimp only;rw[h.lost];rfl
    have R:=h.n
    exact⟨by omega,by show(z.X.m:Int)=_;omega,each,λi c=>(pf o (k:=i) (by show i<=z.X.m;omega)).2.1,λi j c v a b=>by
      have c:i<z.X.st.length:=c;have v:j<z.X.st.length:=v;have a:z.X.st[i]≠1:=a;have b:z.X.st[j]≠1:=b;rw[h.sh.get c]at a;rw[h.sh.get v]at b;by_cases g:i=k
      · by_cases g2:j=k
        · rw[g,g2]
        · rw[aE g2]at b;exact cN rfl b
      · rw[aE g]at a;exact cN rfl a⟩
  · have R:=h.n
    obtain⟨kd,e,l,_⟩:=d i zO
    have:=G i
    exact⟨_,by rw[e];rfl,by rw[dM];omega⟩
  · have c:i<z.X.m:=c
    obtain⟨kd,e,l⟩:=h.len i c (A i c)
    exact⟨_,by rw[e];rfl,by rw[dM];exact l⟩
  · show(z.t.K z.X.m).map _=_
    rw[<-t,h.ok.t.k];rfl
  · rw[Y];show qt z.X.ring _ _ _ _ _;rw[K];exact y
  · intro p hp
    have:=h.ok.t.inr p hp
    rw[t,B,D]at this
    exact this
  · by_cases e:z.t.x.cy=[]
    · rw[e];exact c7 _
    · have:1<=z.t.x.cy.length:=KO.2 e
      omega
  · intro j row kd v S hd e
    cases U:z.t.K j with
    |none=>dsimp only at e;rw[U]at e;cases e
    |some k0=>
      dsimp only at e;rw[U]at e;cases e
      obtain⟨g1,g2⟩:=h.ok.t.stay j row k0 (by rw[t];exact v) (by rw[B,D];exact S) hd U
      exact⟨λg=>(g1 g).settle _,g2⟩
  · intro j row v S;exact h.ok.t.F.mu j row (by rw[t];exact v) (by rw[B,D];exact S)
  · intro row S
    have:=h.ok.t.F.par row (by rw[B,D];exact S)
    rw[t]at this
    exact this
  · have c:i<z.X.st.length:=c
    have v:j<z.X.st.length:=v
    have a:z.X.st[i]≠1:=a
    have b:z.X.st[j]≠1:=b
    rw[h.sh.get c]at a
    rw[h.sh.get v]at b
    by_cases g:i=k
    · by_cases g2:j=k
      · rw[g,g2]
      · rw[aE g2]at b;exact cN rfl b
    · rw[aE g]at a;exact cN rfl a
  · have R:=h.n
    rw[R]
    have O:∀i,i<=z.X.m->∃kd,(z.t.K i).map (λk=>k.settle (f i))=some kd/\0<kd.last.length:=λi c=>by
      obtain⟨kd,e,l,_⟩:=d i c;have:=G i;exact⟨_,by rw[e];rfl,by rw[dM];omega⟩
    exact Ba.xn ⟨⟨h.ok.X.m,h.ok.X.c,h.ok.X.s,h.ok.X.st,h.ok.X.u4,h.ok.X.cur⟩,h.ring,h.id,by show 1<=z.X.ev+1/\z.X.ev+1<=_;omega,by show 1<=sf/\sf<=z.X.ev+1;omega,h.sh.aX,(h.sh.LR h.ok.X.s.1),aa⟩ (O z.X.m (eI _)) λi c _=>O i (by have:i<z.X.st.length:=c;omega)
def CH.S(P:aY)(b:Nat)(y:CH):dN:=⟨y.a,y.r,y.w,y.X P b,y.t,(none,0),[]⟩
theorem Rest.T4(h:Rest z n V k x q E C)(v:x≠2){sf:Nat}(F:1<=sf/\sf<=z.X.ev){K:Kd}(t:∀i kd,z.t.K i=some kd->∃f,K i=some f/\f.last.length=kd.last.length){b:Nat}{y:CH}(g:KV {z.X with sf:=sf} b n K V z.t.c y):Rest (y.S {z.X with sf:=sf} b) n V k x q (E+1) (C+3000)/\(y.S {z.X with sf:=sf} b).calm:=by
 have B:=h.ev;have A:=h.c;have u:=g.c;have D:=h.ok.X.st;have a:=g.Y;have o:y.t.Y.b=b/\y.t.Y.m=z.X.m/\y.t.Y.c=z.X.c/\y.t.Y.s=z.X.s:=⟨(lcs eA.b a:),(lcs eA.m a:),(lcs eA.c a:),(lcs eA.s a:)⟩;have d:∀i,i<z.X.m->z.X.st.getD i 2≠2:=λi c=>by
  rw[h.sh.getD c];split
  · exact v
  · decide
 refine⟨⟨⟨⟨h.ok.X.m,h.ok.X.c,h.ok.X.s,h.ok.X.st,h.ok.X.u4,h.ok.X.cur⟩,rfl,rfl,rfl,o.1.symm,o.2,g.size.symm,g.ok,.inl ⟨(g.ok.nil g.wl).1,g.wl⟩,(lcs eA.lazy a:).symm⟩,h.n,h.ring,h.id,by show 1<=z.X.ev+1/\z.X.ev+1<=E+1;omega,by show 1<=z.X.ev+1/\z.X.ev+1<=z.X.ev+1;omega,g.cap,by show y.t.c<=_;omega,rfl,⟨h.sh.lt,h.sh.st,h.sh.cur,h.sh.x⟩,λi c p=>?_,⟨sf,by show 1<=sf/\sf<=z.X.ev+1;omega,λi c p=>?_⟩⟩,g.wl,g.cy,g.sure⟩
 ·
  have c:i<z.X.m:=c;obtain⟨kd,e,l⟩:=h.len i c (d i c);obtain⟨j,r,l1⟩:=t i kd e;obtain⟨m,s,l2⟩:=g.len i j (show i≠z.X.m by omega) r;exact⟨m,s,by show 1+z.X.s*z.X.c<=_;omega⟩
 · exact g.sr i c p
end
end Go.Proofs.YtonpidcjpenflaaGreat
namespace Go.Proofs.YtonpidcjpenflaaGreat
open Go.RowKit Go.Sl
attribute [local irreducible] Sl.Own
structure dN.mH(z z':dN):Prop where
  b:z'.t.Y.b=z.t.Y.b
  m:z'.X.m=z.X.m
  c:z'.X.c=z.X.c
  s:z'.X.s=z.X.s
  ring:z'.X.ring=z.X.ring
  lazy:z'.t.Y.lazy=z.t.Y.lazy
theorem dN.mH.refl(z:dN):z.mH z:=⟨rfl,rfl,rfl,rfl,rfl,rfl⟩
theorem KB(m c:Nat):fy m c (λ_=>dC)=λ_ _=>dC:=funext λk=>funext λrow=>by
 unfold fy;rw[show yZ m c (λ_=>dC) row=λ_=>dC from funext λi=>by unfold yZ;rw[ite_self],AX,ite_self]
section
variable{W:World}{z:dN}{n k q E C:Nat}{V:Nat->Nat->List UInt8}{x:UInt8}
theorem Rest.to(h:Rest z n V k x q E C){t':iu}{x':Option Addr×Nat}{ps':List aj}{o:Nat->Nat->List UInt8}{m:Nat}(s:t'.ok n z.w (bU z.X) o)(to:z.t.to t')(u:(t'.Y.wo=none/\t'.Y.wl=[])\/(t'.Y.wo=x'.1/\t'.Y.wl=ps'))(p:t'.c<=m):Rest {z with t:=t',x:=x',ps:=ps'} n o k x q E m/\z.mH {z with t:=t',x:=x',ps:=ps'}:=by
 have a:=to.m;have f:=h.ok.g;refine⟨⟨⟨h.ok.X,h.ok.ro,h.ok.r,h.ok.wp,h.ok.b.trans a.1.symm,⟨a.2.1.trans f.1,a.2.2.1.trans f.2.1,a.2.2.2.1.trans f.2.2⟩,h.ok.ring.trans to.size.symm,s,u,h.ok.lz.trans a.2.2.2.2.2.1.symm⟩,h.n,h.ring,h.id,h.ev,h.sf,h.cap,p,h.lost,h.sh,λi c d=>?_,?_⟩,⟨a.1,rfl,rfl,rfl,rfl,a.2.2.2.2.2.1⟩⟩
 ·
  obtain⟨kd,e,l⟩:=h.len i c d;obtain⟨b,e',j,_⟩:=to.z i kd e;have c:i<z.X.m:=c;exact⟨b,e',by rw[j zO];exact l⟩
 ·
  obtain⟨sf,r,g⟩:=h.SS;refine⟨sf,r,λi c d=>?_⟩;obtain⟨kd,e,l⟩:=g i c d;obtain⟨b,e',_,j⟩:=to.z i kd e;exact⟨b,e',j _ l⟩
theorem Q1(h:Rest z n V k x q E C)(a b:Nat)(c:a+b<=z.X.s*z.X.c* (z.X.m-1)):
  iP W 60 [eE z.a,ii a,ii b] z.t.Y.b z.t.D z.O (β:=dN×Option Addr×Nat) (λy=>(Rest y.1 n V k x q E C/\z.mH y.1)/\(z.calm->y.1.calm)/\y.1.a=z.a) (λy=>.tuple #[sliceB y.2 (kI z.X.m z.X.c V a b),i6 0]) (λy=>y.1.t.D) (λy=>Sl.star [b8 y.2 (kI z.X.m z.X.c V a b),y.1.O]):=λR=>
 aq.mono (Lj h.ok a b c R) (λy=>({z with t:={z.t with D:=y.1}},y.2)) (λy f=>⟨h.to (t':={z.t with D:=y.1}) ⟨⟨h.ok.t.Y,h.ok.t.w,h.ok.t.F,h.ok.t.nil,h.ok.t.k,h.ok.t.slot,h.ok.t.live,h.ok.t.base,h.ok.t.ep,h.ok.t.nx,h.ok.t.mx,h.ok.t.KU,h.ok.t.stay,h.ok.t.inr⟩,f⟩ ⟨rfl,rfl,λi kd e=>⟨kd,e,λ_=>rfl,λ_ g=>g⟩,eI _⟩ h.ok.wait h.c,λg=>⟨g.wl,g.cy,g.sure⟩,rfl⟩) (λ_ _=>rfl)
  (λy _ w d=>(((((((d.swap).join:Holds W (b8 y.2 (kI z.X.m z.X.c V a b)::(z.L++(al z.t.Y.b y.1::R))) w).perm List.perm_middle.symm).nest).swap).nest (L:=[b8 y.2 (kI z.X.m z.X.c V a b),z.O])).swap))
theorem Ow{R:List ab}{B:Nat->List UInt8}{l:List cQ}{ao:Option Addr}{cap:Nat}(h:Rest z n (fy z.X.m z.X.c B) k 1 0 E C)(r:l.length<=256)(s:iT W R ao l)(o:∀p∈l,p.dV<z.X.s*z.X.c* (z.X.m-1))(m:∀b,b<z.X.s*z.X.c* (z.X.m-1)->(B b).length=128)(t:C<=900000):
    aq W Tryz.prog 61 [eE z.a,.slice ao l.length cap] (al z.t.Y.b z.t.D::z.O::R) (β:=dN) (λc=>(Rest c n (fy z.X.m z.X.c (if z.X.ring<2*dF z.X.m z.X.c l+1 then B else hU l B)) k 1 0 E (C+4000)/\z.mH c)/\c.a=z.a/\(z.t.Y.lazy=false->z.X.ring<2*dF z.X.m z.X.c l+1\/l=[]\/c.t.v.sure=true)) (λ_=>i6 (if z.X.ring<2*dF z.X.m z.X.c l+1 then 122 else 0)) (λc=>al z.t.Y.b c.t.D::c.O::R):=by
  have a:=h.ok.g;have u:=h.c;have f:=Iy (W:=W) (cap:=cap) (B:=B) (ao:=ao) (l:=l) (by rw[a.1,a.2.1];exact h.ok) (λj row _ g=>((h.sh.gB j row).1 g).2.1 rfl) r s (by rw[a.1,a.2.1,a.2.2];exact o) (by rw[a.1,a.2.1,a.2.2];exact m) zO;rw[a.1,a.2.1,<-h.ok.ring]at f;refine aq.mono f (λy=>z.wr y) (λy d=>?_) (λ_ _=>rfl) (λ_ _=>ae.refl);cases y with
  |none=>
    have d:z.t.v.size<2*dF z.t.Y.m z.t.Y.c l+1\/l=[]:=d;rw[a.1,a.2.1,<-h.ok.ring]at d;refine⟨⟨?_,dN.mH.refl z⟩,rfl,λ_=>d.elim .inl λg=>.inr (.inl g)⟩;have e:fy z.X.m z.X.c (if z.X.ring<2*dF z.X.m z.X.c l+1 then B else hU l B)=fy z.X.m z.X.c B:=by
      split
      · rfl
      · rename_i g
        rcases d with q|q
        · exact cN q g
        · rw[q];rfl
    rw[e];exact⟨h.ok,h.n,h.ring,h.id,h.ev,h.sf,h.cap,by show z.t.c<=_;omega,h.lost,h.sh,h.len,h.SS⟩
  |some y=>
    obtain⟨i,a2,a3⟩:=d;rw[a.1,a.2.1,<-h.ok.ring]at i;rw[aE zO];have a4:=a3.ok;rw[a.1,a.2.1]at a4;exact⟨h.to a4 a3.to a3.wait (by have:=a3.c;omega),rfl,λg=>.inr (.inr (a3.calm g).2)⟩
theorem Oq(h:Rest z n V k x q E C)(c:C<=1000000):iP W 62 [eE z.a] z.t.Y.b z.t.D z.O (β:=dN) (λa=>(Rest a n V k x q E (C+1023)/\z.mH a)/\a.a=z.a) (λ_=>i6 0) (λa=>a.t.D) (λa=>a.O):=λR=>by
 have d:=h.c;have e:=h.ok.t.mx;exact aq.mono (Ix h.ok zO R) (λy=>z.fl y) (λy b=>⟨h.to b.1 b.2 (.inl ⟨rfl,rfl⟩) (by show z.t.c+z.t.Y.wl.length<=_;omega),rfl⟩) (λ_ _=>rfl) (λ_ _=>ae.refl)
theorem Ou(h:Rest z n V k x q E C):∀R,aq W Tryz.prog 23 [eE z.a] (z.O::R) (β:=Option Addr×Nat) (λ_=>True) (λy=>.agg (lP (vU.sup z.X y) false z.t.Y.wl.length z.t.v.used).toArray) (λy=>Sl.star (Kq z y::z.L)::R):=Fk h.ok
theorem CO(h:Rest z n V k 1 0 E C)(d:E<4611686018427387904)(j:C<=1000000):iP W 64 [eE z.a,ii k] z.t.Y.b z.t.D z.O (β:=dN) (λa=>(Rest a n V k 2 0 (E+1) (C+40)/\z.mH a)/\a.a=z.a/\a.t.K k=none) (λ_=>i6 0) (λa=>a.t.D) (λa=>a.O):=by
 obtain⟨e,⟨kd,b⟩,i,f⟩:=h.fail d;have l:=h.c;intro R;exact aq.mono (Li (z:=z) (T:=λD'=>(z.TT k D').L) (λR=>by
  have g:=Lb (W:=W) (R:=bz z.w z.t.Y.b z.t.v::bL z.x z.ps::bX z.ps::R) z.a z.r z.X h.ok.X z.t.Y k h.sh.lt b h.sh.all e h.ok.ro h.ok.r h.ok.g.1 (bU z.X) (by unfold bU;rw[ew,h.sh.len]) h.ok.t.q zO;rw[h.ok.b]at g;exact fX ae.re (aq.mono g (λy=>y) (λ_ h=>h) (λ_ _=>rfl) (λy _=>ae.re))) R) (λD'=>z.TT k D') (λD' c=>⟨⟨i D' c,rfl,rfl,rfl,rfl,rfl,rfl⟩,rfl,f D'⟩) (λ_ _=>rfl) (λ_ _=>ae.refl)
theorem Ot{kd:ak}(h:Rest z n V k 2 0 E C)(e:E<4611686018427387904)(m:C<=950000)(c:z.t.K k=some kd)(d:1+z.X.s*z.X.c<=kd.last.length):iP W 68 [eE z.a,ii k] z.t.Y.b z.t.D z.O (β:=dN) (λb=>(Rest b n V k 3 0 (E+1) (C+1063)/\z.mH b)/\b.a=z.a/\b.calm) (λ_=>i6 0) (λb=>b.t.D) (λb=>b.O):=by
 obtain⟨f,g⟩:=h.replace e c d;have o:=h.c;have p:=h.ok.t.mx;have a:=h.ok.t;intro R;exact aq.mono (u7 (z:=z) (T:=λy=>(z.rep k y).L) (λj l R=>fX ae.re (aq.mono (CN (R:=bL z.x z.ps::bX z.ps::R) z.a z.r z.X h.ok.X h.ok.ro h.ok.r z.t.Y a.Y a.w h.ok.b.symm h.ok.g.1 (bU z.X) a.uD (dN.rd h.ok.wait j l zm zm) a.q zO a.k a.slot a.live a.base (a.lO zO) zO k h.sh.lt (by rw[fL (by rw[h.sh.len];exact h.sh.lt),h.sh.get,lam rfl]) c d f) (λy=>y) (λ_ h=>h) (λ_ _=>rfl) (λy _=>ae.re))) R) (λy=>z.rep k y) (λy i=>⟨⟨g y i,rfl,rfl,rfl,rfl,rfl,rfl⟩,rfl,rfl,rfl,rfl⟩) (λ_ _=>rfl) (λ_ _=>ae.refl)
theorem Ov(h:Rest z n V k 3 q E C)(d:z.calm)(r:E<4611686018427387904)(G:C<=950000):iP W 69 [eE z.a] z.t.Y.b z.t.D z.O (β:=dN) (λb=>(Rest b n V k (RR z.X.s q) (RQ z.X.s q) (E+1) (C+60)/\z.mH b)/\b.a=z.a/\b.calm) (λ_=>.tuple #[.bool (decide (q+1=z.X.s)),i6 0]) (λb=>b.t.D) (λb=>b.O):=by
 obtain⟨t,u⟩:=h.step d r;have H:=h.c;have a:=h.ok.t;have f:=h.sh.lt;have v:=h.ok.X;obtain⟨kd,i,l⟩:=h.len k f (by rw[h.sh.getD f,lam rfl];decide);have B:q<z.X.s:=by rcases h.sh.x with g|g|g;exact cN g.1 (by decide);exact cN g.1 (by decide);exact g.2
 have e:(z.X.fz k).m=z.X.m/\(z.X.fz k).c=z.X.c/\(z.X.fz k).s=z.X.s/\(z.X.fz k).ring=z.X.ring:=by unfold aY.fz;split<;>exact⟨rfl,rfl,rfl,rfl⟩
 intro R;rw[<-h.sh.cur];exact aq.mono (u7 (z:=z) (T:=λy=>(z.fz V k y).L) (λD F R=>fX ae.re (aq.mono (Lk (R:=bL z.x z.ps::bX z.ps::R) z.a z.r z.X v h.ok.ro h.ok.r z.t.Y a.Y a.w h.ok.b.symm h.ok.g.1 h.ok.g.2.1 h.ok.g.2.2 (by rw[h.ok.g.1];exact h.n) (bU z.X) a.F d.wl (a.nil d.wl) (dN.rd h.ok.wait D F zm zm) a.q zO a.k a.slot a.live k f (by rw[h.sh.cur];exact B) (by rw[fL (by rw[h.sh.len];exact f),h.sh.get,lam rfl]) (λj A o=>by rw[h.sh.get A,aE o]) (λrow=>by rw[h.sh.gB,h.sh.cur];exact⟨λg=>g.2.2 rfl,λg=>⟨rfl,by decide,λ_=>g⟩⟩) i l t) (λy=>y) (λ_ h=>h) (λ_ _=>rfl) (λy _=>ae.re))) R) (λy=>z.fz V k y) (λy p=>by
  obtain⟨g1,g2⟩:=u y ⟨p.1,p.2.1⟩;rw[h.sh.cur];exact⟨⟨g1,rfl,e.1,e.2.1,e.2.2.1,e.2.2.2,rfl⟩,rfl,g2⟩) (λ_ _=>rfl) (λ_ _=>ae.refl)
theorem Oo(h:Rest z n V k x q E C)(g:x≠2)(d:z.t.v.sure=true)(l:E<4611686018427387904)(p:C<=900000)(kl:List (List Bool)):∀R,aq W Tryz.prog 73 [eE z.t.Y.b] (al z.t.Y.b (z.t.D.cut kl)::R) (β:=dN) (λa=>(Rest a n V k x q (E+1) (C+3000)/\z.mH a)/\a.calm) (λa=>.tuple #[eE a.a,i6 0]) (λa=>al z.t.Y.b a.t.D::a.O::R):=λR=>by
 have r:=h.c;obtain⟨P,sf,rfl,o,m⟩:=h.UB g d l λi=>jI (kl.getD i []);have j:=Bc (W:=W) (R:=R) z.t.Y.b m (h.ok.t.q.cut kl) zO;refine aq.mono j (λy=>y.S {z.X with sf:=sf} z.t.Y.b) (λy c=>?_) (λ_ _=>rfl) (λy c=>?_)
 ·
  obtain⟨g1,g2⟩:=h.T4 g o (λi kd e=>⟨_,by rw[e];rfl,dM _ _⟩) c;have b:=c.Y;exact⟨⟨g1,(lcs eA.b b:),rfl,rfl,rfl,rfl,(lcs eA.lazy b:).trans h.ok.lz⟩,g2⟩
 ·
  have e:y.t.Y.b=z.t.Y.b:=(lcs eA.b c.Y:);show ae W _ (al z.t.Y.b y.t.D::Sl.star (y.S {z.X with sf:=sf} z.t.Y.b).L::R);rw[<-e];exact ae.trans (λw f=>Holds.aZ 208 3 (di (res:=aj.res) f)) (ae.trans (ae.re (L:=(y.S {z.X with sf:=sf} y.t.Y.b).L++al y.t.Y.b y.t.D::R)) λw f=>(f.nest).swap)
end
end Go.Proofs.YtonpidcjpenflaaGreat
namespace Go.Proofs.YtonpidcjpenflaaGreat
open Go.RowKit Go.Sl
attribute [local irreducible] Sl.Own
theorem Ie{z:Int}(h:(Lit.int .u16 z).wf=true):∃m:Nat,z=m/\m<65536:=by
 simp[Lit.wf,IntKind.min,IntKind.max,IntKind.signed,IntKind.bits]at h;exact⟨z.toNat,by omega,by omega⟩
theorem nS{z:Int}(h:(Lit.int .u8 z).wf=true):∃m:Nat,z=m/\m<256:=by
 simp[Lit.wf,IntKind.min,IntKind.max,IntKind.signed,IntKind.bits]at h;exact⟨z.toNat,by omega,by omega⟩
theorem Ut:Tryz.prog.cellsOf 22=1:=by kernel_rfl
theorem k8:Tryz.prog.cellsOf 5=1:=by kernel_rfl
theorem kB:Tryz.prog.cellsOf 32=1:=by kernel_rfl
theorem kK:Tryz.prog.cellsOf 26=1:=by kernel_rfl
theorem kb:Tryz.prog.cellsOf 4=1:=by kernel_rfl
theorem kA:Tryz.prog.cellsOf 23=1:=by kernel_rfl
structure sJ where
  b:Nat
  f:Nat
abbrev sJ.cells(x:sJ):List Value:=[i6 x.b,ib x.f]
def Qt(l:List sJ):List Value:=l.flatMap sJ.cells
theorem OG(p:sJ):∀u∈p.cells,u.oneCell'=true:=by simp[Value.oneCell']
theorem zf(l:List sJ)(j i:Nat)(h:j<l.length)(a:i<2):(Qt l)[j*2+i]?=(l[j].cells)[i]? :=vA l j i h (λ_ _=>rfl) a
theorem Q8{W:World}{cs:List Value}(h:jA Tryz.prog W 95 cs):∃o:sJ,cs=o.cells/\o.b<65536/\o.f<256:=by
  have c:=(h.nQ Tryz.underlying95).1;have d:Tryz.prog.cellsOf 95=2:=by kernel_rfl
  rw[d]at c;match cs,c with
  |[v0,v1],_=>
    have g0:jA Tryz.prog W 22 [v0]:=h.field (i:=0) (off:=0) Tryz.underlying95 rfl rfl rfl Ut;have g1:jA Tryz.prog W 5 [v1]:=h.field (i:=1) (off:=1) Tryz.underlying95 rfl rfl rfl k8;obtain⟨z0,e,w0⟩:=g0.kL Tryz.underlying22;obtain⟨z1,f,k⟩:=g1.kL Tryz.underlying5;obtain⟨a,rfl,g⟩:=Ie w0;obtain⟨b,rfl,j⟩:=nS k;cases e;cases f;exact⟨⟨a,b⟩,rfl,g,j⟩
structure A7(W:World)(ao:Option Addr)(l:List sJ):Prop where
  gz:∀R,aV W R 2 ao l.length (Qt l)
  fit:∀x∈l,x.b<65536/\x.f<256
  len:l.length<=140737488351232
theorem OH{W:World}{ao:Option Addr}{n cap:Nat}(h:jA Tryz.prog W 32 [.slice ao n cap]):∃l:List sJ,l.length=n/\A7 W ao l:=by
 obtain⟨l,a,c,d,i,e⟩:=h.list sJ.cells (λx=>x.b<65536/\x.f<256) ⟨0,0⟩ Tryz.underlying32 (by kernel_rfl) (λo _=>OG o) (λcs g=>Q8 g);have b:1<=Tryz.prog.bytesOf 95:=cI (by kernel_rfl);have f:cap<=reachBytes:=qX (Nat.le_mul_of_pos_right cap b) e;refine⟨l,a,⟨λR=>?_,d,by simp only[reachBytes]at f;omega⟩⟩;rw[a];exact c R
structure oC where
  kind:Nat
  slot:Nat
  n:Nat
  x:Option Addr×Nat
  l:List sJ
  y:Option Addr×Nat
  ks:List fI
abbrev oC.cells(o:oC):List Value:=[ib o.kind,ib o.slot,ib o.n,.slice o.x.1 o.l.length o.x.2,.slice o.y.1 o.ks.length o.y.2]
def Ic(l:List oC):List Value:=l.flatMap oC.cells
theorem Qb(p:oC):∀u∈p.cells,u.oneCell'=true:=by simp[Value.oneCell']
theorem mP(l:List oC)(j i:Nat)(h:j<l.length)(a:i<5):(Ic l)[j*5+i]?=(l[j].cells)[i]? :=vA l j i h (λ_ _=>rfl) a
structure oC.wf(W:World)(o:oC):Prop where
  l:A7 W o.x.1 o.l
  ks:∀R,oy W R o.y.1 o.ks
  kl:∀x∈o.ks,x.l.length<=140737488351232
  kn:o.ks.length<=140737488351232
theorem SE{W:World}{cs:List Value}(h:jA Tryz.prog W 34 cs):∃o:oC,cs=o.cells/\o.wf W:=by
  have g:=(h.nQ Tryz.underlying34).1;have k:Tryz.prog.cellsOf 34=5:=by kernel_rfl
  rw[k]at g;match cs,g with
  |[v0,v1,v2,v3,v4],_=>
    have g0:jA Tryz.prog W 5 [v0]:=h.field (i:=0) (off:=0) Tryz.underlying34 rfl rfl rfl k8;have g1:jA Tryz.prog W 5 [v1]:=h.field (i:=1) (off:=1) Tryz.underlying34 rfl rfl rfl k8;have g2:jA Tryz.prog W 5 [v2]:=h.field (i:=2) (off:=2) Tryz.underlying34 rfl rfl rfl k8;have g3:jA Tryz.prog W 32 [v3]:=h.field (i:=3) (off:=3) Tryz.underlying34 rfl rfl rfl kB;have g4:jA Tryz.prog W 26 [v4]:=h.field (i:=4) (off:=4) Tryz.underlying34 rfl rfl rfl kK;obtain⟨z0,p,w0⟩:=g0.kL Tryz.underlying5;obtain⟨z1,q,x⟩:=g1.kL Tryz.underlying5;obtain⟨z2,r,y⟩:=g2.kL Tryz.underlying5;obtain⟨ao,n,cap,_,e,_⟩:=g3.kX Tryz.underlying32;obtain⟨j,m,d,_,f,_⟩:=g4.kX Tryz.underlying26;rw[e]at g3;rw[f]at g4;obtain⟨l,rfl,s⟩:=OH g3;obtain⟨kl,rfl,t,u,v⟩:=DI g4;obtain⟨a,rfl,z⟩:=nS w0;obtain⟨b,rfl,A⟩:=nS x;obtain⟨c,rfl,B⟩:=nS y;cases p;cases q;cases r;cases e;cases f;exact⟨⟨a,b,c,(ao,cap),l,(j,d),kl⟩,rfl,⟨s,t,u,v⟩⟩
structure K7(W:World)(ao:Option Addr)(l:List oC):Prop where
  gz:∀R,aV W R 5 ao l.length (Ic l)
  each:∀o∈l,o.wf W
  len:l.length<=140737488351232
theorem Qc{W:World}{ao:Option Addr}{n cap:Nat}(h:jA Tryz.prog W 23 [.slice ao n cap]):∃l:List oC,l.length=n/\K7 W ao l:=by
 obtain⟨l,a,c,d,i,e⟩:=h.list oC.cells (oC.wf W) ⟨0,0,0,(none,0),[],(none,0),[]⟩ Tryz.underlying23 (by kernel_rfl) (λo _=>Qb o) (λcs g=>SE g);have b:1<=Tryz.prog.bytesOf 34:=cI (by kernel_rfl);have f:cap<=reachBytes:=qX (Nat.le_mul_of_pos_right cap b) e;refine⟨l,a,⟨λR=>?_,d,by simp only[reachBytes]at f;omega⟩⟩;rw[a];exact c R
structure dy where
  a:Nat
  b:Nat
  c:Nat
  r:Nat
  lazy:Bool
  x:Option Addr×Nat
  l:List oC
abbrev dy.cells(p:dy):List Value:=[ib p.a,ib p.b,ib p.c,i6 p.r,.bool p.lazy,.slice p.x.1 p.l.length p.x.2]
structure dy.wf(W:World)(p:dy):Prop where
  a:p.a<256
  b:p.b<256
  c:p.c<256
  r:p.r<65536
  l:K7 W p.x.1 p.l
abbrev dy.gm(p:dy):Nat:=3+p.a%14
abbrev dy.gc(p:dy):Nat:=1+p.b%16
abbrev dy.gs(p:dy):Nat:=1+p.c
abbrev dy.gr(p:dy):Nat:=5+p.r%2044
theorem PR{W:World}{cs:List Value}(h:jA Tryz.prog W 25 cs):∃o:dy,cs=o.cells/\o.wf W:=by
  have e:=(h.nQ Tryz.underlying25).1;have f:Tryz.prog.cellsOf 25=6:=by kernel_rfl
  rw[f]at e;match cs,e with
  |[v0,v1,v2,v3,v4,v5],_=>
    have g0:jA Tryz.prog W 5 [v0]:=h.field (i:=0) (off:=0) Tryz.underlying25 rfl rfl rfl k8;have g1:jA Tryz.prog W 5 [v1]:=h.field (i:=1) (off:=1) Tryz.underlying25 rfl rfl rfl k8;have g2:jA Tryz.prog W 5 [v2]:=h.field (i:=2) (off:=2) Tryz.underlying25 rfl rfl rfl k8;have g3:jA Tryz.prog W 22 [v3]:=h.field (i:=3) (off:=3) Tryz.underlying25 rfl rfl rfl Ut;have g4:jA Tryz.prog W 4 [v4]:=h.field (i:=4) (off:=4) Tryz.underlying25 rfl rfl rfl kb;have g5:jA Tryz.prog W 23 [v5]:=h.field (i:=5) (off:=5) Tryz.underlying25 rfl rfl rfl kA;obtain⟨z0,g,w0⟩:=g0.kL Tryz.underlying5;obtain⟨z1,j,y⟩:=g1.kL Tryz.underlying5;obtain⟨z2,k,z⟩:=g2.kL Tryz.underlying5;obtain⟨z3,m,A⟩:=g3.kL Tryz.underlying22;obtain⟨v,p⟩:=g4.CY Tryz.underlying4;obtain⟨ao,n,cap,_,d,_⟩:=g5.kX Tryz.underlying23;rw[d]at g5;obtain⟨l,rfl,x⟩:=Qc g5;obtain⟨a,rfl,q⟩:=nS w0;obtain⟨b,rfl,s⟩:=nS y;obtain⟨c,rfl,t⟩:=nS z;obtain⟨r,rfl,u⟩:=Ie A;cases g;cases j;cases k;cases m;cases p;cases d;exact⟨⟨a,b,c,r,v,(ao,cap),l⟩,rfl,⟨q,s,t,u,x⟩⟩
section
variable{W:World}{R:List ab}
theorem HU{p:dy}(h:p.wf W):az W Tryz.prog 12 [.agg p.cells.toArray] R (.agg (cv p.gm p.gc p.gs).toArray) R:=by
 have c:=h.a;have d:=h.b;have e:=h.c;refine ze Tryz.func12 Tryz.ntmps12 ?_;refine zj λ_=>?_;refine w ?_;rename_i q;refine zq ?_;refine ay.aB AB rfl ?_;intro f;refine w ?_;refine VO.re 5 (ii p.a) rfl (by rw[IntWalk.i64_in _ ⟨by omega,by omega⟩]) ?_;refine VO.pure rfl rfl (af.rem (a:=p.a) (b:=14) rfl rfl (by decide)) rfl ?_;refine w ?_;refine VO.re 10 (ii p.b) rfl (by rw[IntWalk.i64_in _ ⟨by omega,by omega⟩]) ?_;refine VO.pure rfl rfl (af.rem (a:=p.b) (b:=16) rfl rfl (by decide)) rfl ?_;refine w ?_;refine VO.re 7 (ii p.gm) rfl (by congr 1) ?_;refine VO.re 12 (ii p.gc) rfl (by congr 1) ?_;refine VO.re 16 (ii p.gs) rfl (by rw[IntWalk.i64_in p.c ⟨by omega,by omega⟩,IntWalk.i64_in (1+(p.c:Int)) ⟨by omega,by omega⟩];congr 1) ?_;refine VO.pure rfl rfl (af.build AB rfl (show aC _ _ _=some (cv p.gm p.gc p.gs)by simp[aC,bR,Value.cells])) rfl ?_;refine zS (cv p.gm p.gc p.gs) ?_;exact VE.results1 (.inl rfl) () rfl (aL.agg (vs:=cv p.gm p.gc p.gs) ah rfl rfl zm rfl rfl) trivial rfl (ae.drop (ae.drop ae.refl))
theorem sj{p:dy}(h:p.wf W):az W Tryz.prog 13 [.agg p.cells.toArray] R (ii p.gr) R:=by
 have c:=h.r;refine ze Tryz.func13 Tryz.ntmps13 ?_;refine zj λ_=>?_;refine w ?_;refine VO.re 5 (ii p.r) rfl (by rw[IntWalk.i64_in _ ⟨by omega,by omega⟩]) ?_;refine VO.pure rfl rfl (af.rem (a:=p.r) (b:=2044) rfl rfl (by decide)) rfl ?_;refine w ?_;refine VE.ax rfl (by congr 1) (ae.drop ae.refl)
theorem Ku(o:oC):az W Tryz.prog 21 [.agg o.cells.toArray] R (.slice o.y.1 o.ks.length o.y.2) R:=by
 refine ze Tryz.func21 Tryz.ntmps21 ?_;refine zj λ_=>?_;refine w ?_;refine VE.ax rfl rfl (ae.drop ae.refl)
abbrev O6(f i:Nat):List UInt8:=List.replicate i (UInt8.ofNat f)++List.replicate (128-i) 0
theorem ru{f:Nat}(h:f<256):aq W Tryz.prog 15 [.int .u8 f] R (β:=Nat) (λ_=>True) (λb=>.slice (ik b) 128 128) (λb=>b8 (ik b,128) (List.replicate 128 (UInt8.ofNat f))::R):=by
 refine ze Tryz.func15 Tryz.ntmps15 ?_;refine zq ?_;refine ay.dd eH rfl rfl rfl ?_ ?_ rfl ?_
 · decide
 · decide
 intro nb;refine w ?_;have a:∀i,i<=128->(O6 f i).length=128:=λi g=>by unfold O6;rw[c9,j0,j0];omega
 refine VC.loop (α:=Nat) (λi=>i<=128) (λi=>Sl.Own 5 1 (.slice (ik nb) 128 128) 128 (bytes (O6 f i))::R) (λi=>[(0,.int .u8 f),(3,.slice (ik nb) 128 128),(4,.int .i64 i)]) (λi=>128-i) rfl 0 (c7 _) (by rw[show bytes (O6 f 0)=List.replicate 128 (.int .u8 0)from dD 128];exact ae.re) ⟨rfl,rfl,rfl,trivial⟩ ?_;intro i g;refine w ?_;refine zk ?_ ?_<;>intro d
 ·
  have c:i<128:=by have:=cI d;omega
  clear d;refine zw ?_;refine ay.EJ ah rfl rfl rfl rfl zh (by rw[ff,a i g];exact c) ?_;refine w ?_;have e:(bytes (O6 f i)).set i (.int .u8 f)=bytes (O6 f (i+1)):=by
   unfold bytes;rw[show(Value.int .u8 (f:Int))=gv (UInt8.ofNat f)by unfold gv;rw[UInt8.toNat_ofNat_of_lt' h],<-List.map_set];congr 1;unfold O6;rw[JB _ _ (by rw[j0];exact eI _),j0,BH,show 128-i=(128-(i+1))+1 by omega,List.replicate_succ,List.set_cons_zero,List.replicate_succ',lx];rfl
  rw[e];exact VE.round (i+1) c zO ⟨rfl,rfl,b7 rfl (by congr 1),trivial⟩ ae.re
 obtain rfl:i=128:=by have:=dx d;omega
 refine w ?_;have e:O6 f 128=List.replicate 128 (UInt8.ofNat f):=by unfold O6;rw[BH,List.replicate_zero,mn]
 rw[e];exact VE.done nb rfl trivial rfl ae.re
theorem L6(a b c r n:Nat):((a:Int)*b*c+r)* (min (n:Int) 1000+4)=(((a*b*c+r)* (min n 1000+4):Nat):Int):=by
 rw[Int.natCast_mul,Int.natCast_add,Int.natCast_mul,Int.natCast_mul,Int.natCast_add (min n 1000) 4];congr 2;omega
structure S0(p:dy):Prop where
  len:p.l.length<=200
  sz:(p.gm*p.gc*p.gs+p.gr)* (min p.l.length 1000+4)<=131072
theorem Rr{p:dy}(h:p.wf W):aq W Tryz.prog 4 [.agg p.cells.toArray] R (β:=Bool) (λb=>b=false->S0 p) (λb=>.bool b) (λ_=>R):=by
 have F:=h.l.len;have D:p.gm*p.gc<=16*16:=mo (by unfold dy.gm;omega) (by unfold dy.gc;omega);have H:p.gm*p.gc*p.gs<=256*256:=mo D (by have:=h.c;unfold dy.gs;omega);have L:p.gr<=2048:=by unfold dy.gr;omega
 have I:(p.gm*p.gc*p.gs+p.gr)* (min p.l.length 1000+4)<=67584*1004:=mo zO zO;have i1:(0:Int)<=(p.gm:Int)*p.gc/\(p.gm:Int)*p.gc<=256:=by rw[<-Int.natCast_mul];exact⟨Int.natCast_nonneg _,Int.ofNat_le.2 D⟩
 have i2:(0:Int)<=(p.gm:Int)*p.gc*p.gs/\(p.gm:Int)*p.gc*p.gs<=65536:=by rw[<-Int.natCast_mul,<-Int.natCast_mul];exact⟨Int.natCast_nonneg _,Int.ofNat_le.2 H⟩
 have C:=L6 p.gm p.gc p.gs p.gr p.l.length;have i4:(0:Int)<=((p.gm:Int)*p.gc*p.gs+p.gr)* (min (p.l.length:Int) 1000+4)/\((p.gm:Int)*p.gc*p.gs+p.gr)* (min (p.l.length:Int) 1000+4)<=67584*1004:=by
  rw[C];exact⟨Int.natCast_nonneg _,Int.ofNat_le.2 I⟩
 refine ze Tryz.func4 Tryz.ntmps4 ?_;refine zj λ_=>?_;refine w ?_;rename_i q;refine zt (s:=HU h) (h:=?_);intro _ _;refine zw ?_;refine ay.aB AB rfl ?_;intro A;refine zS (cv p.gm p.gc p.gs) ?_;refine zx [9] 16 [0,1,2,3,4,5,6,7,8,11,12,13,14,15,9,10,16,17] _ ?_;refine zt (s:=sj h) (h:=?_);intro _ _;refine⟨ae.re,?_⟩;refine w ?_;refine zk ?_ ?_<;>intro o
 ·
  refine w ?_;exact VE.done true rfl (λq=>by cases q) rfl (ae.drop (ae.drop ae.refl))
 have z:(p.gm*p.gc*p.gs+p.gr)* (min p.l.length 1000+4)<=131072:=by
  have:=dx o;rw[C]at this;omega
 clear o i1 i2 i4 C D H L I;obtain⟨d,e,pc,f,a,⟨j,g⟩,l⟩:=p;dsimp only at F z;refine VC.aR (H':=Row A 36 (cv (dy.gm ⟨d,e,pc,f,a,⟨j,g⟩,l⟩) (dy.gc ⟨d,e,pc,f,a,⟨j,g⟩,l⟩) (dy.gs ⟨d,e,pc,f,a,⟨j,g⟩,l⟩))::Row q 25 (dy.cells ⟨d,e,pc,f,a,⟨j,g⟩,l⟩)::R) ae.re ?_;generalize cv (dy.gm ⟨d,e,pc,f,a,⟨j,g⟩,l⟩) (dy.gc ⟨d,e,pc,f,a,⟨j,g⟩,l⟩) (dy.gs ⟨d,e,pc,f,a,⟨j,g⟩,l⟩)=G;refine w ?_;refine VC.loop (α:=Nat×Nat) (λy=>y.1<=l.length/\y.2<=1407374883512320) (λ_=>Row A 36 G::Row q 25 (dy.cells ⟨d,e,pc,f,a,⟨j,g⟩,l⟩)::R) (λy=>[(1,ip q),(4,ii y.2),(5,ii y.1)]) (λy=>l.length-y.1) rfl (0,l.length) ⟨c7 _,by show l.length<=_;omega⟩ ae.re ⟨rfl,rfl,rfl,trivial⟩ ?_;rintro⟨i,n⟩ ⟨O,U⟩;dsimp only at O U⊢;refine w ?_;refine zg ?_ ?_<;>intro u
 ·
  have c:i<l.length:=by have q:((i:Nat):Int)<(l.length:Int):=cI u;omega
  have x:aV W (Row A 36 G::Row q 25 (dy.cells ⟨d,e,pc,f,a,⟨j,g⟩,l⟩)::R) 5 j l.length (Ic l):=h.l.gz _;obtain⟨K,rfl⟩:=iK x.nil zO;have B:l[i].wf W:=h.l.each _ (fF c);have M:=B.l.len;have S:=B.kn;refine w ?_;refine zk ?_ ?_<;>intro o
  ·
   have T:n<=20000:=by have:=cI o;omega
   clear o u;refine w ?_;refine VC.quiet rfl (by kernel_rfl) (by kernel_rfl) ?_;refine w ?_;refine VQ.pure rfl rfl (af.fH ah rfl rfl x (mP l i 3 c (by decide))) rfl ?_;refine w ?_;refine VQ.pure rfl rfl (af.fH ah rfl rfl x (mP l i 4 c (by decide))) rfl ?_;refine w ?_;refine VC.re 4 (ii ((n+(l[i].l.length+l[i].ks.length):Nat):Int)) rfl (by congr 1) ?_;refine w ?_;refine VC.loop (α:=Nat×Nat) (λy=>y.1<=l[i].ks.length/\y.2<=1407374883512320) (λ_=>Row A 36 G::Row q 25 (dy.cells ⟨d,e,pc,f,a,⟨some K,g⟩,l⟩)::R) (λy=>[(1,ip q),(4,ii y.2),(5,ii i),(6,ii y.1)]) (λy=>l[i].ks.length-y.1) rfl (0,n+(l[i].l.length+l[i].ks.length)) ⟨c7 _,by dsimp only;omega⟩ ae.re ⟨rfl,rfl,rfl,rfl,trivial⟩ ?_;rintro⟨k,m⟩ ⟨P,g2⟩;dsimp only at P g2⊢;refine w ?_;refine VO.pure rfl rfl (af.fH ah rfl rfl x (mP l i 4 c (by decide))) rfl ?_;refine w ?_;refine zg ?_ ?_<;>intro u
   ·
    have r:k<l[i].ks.length:=by have:=cI u;omega
    have t:=(B.ks (Row A 36 G::Row q 25 (dy.cells ⟨d,e,pc,f,a,⟨some K,g⟩,l⟩)::R)).gz;obtain⟨V,v⟩:=iK t.nil zO;rw[v]at t;have Q:=B.kl _ (fF r);refine w ?_;refine zk ?_ ?_<;>intro o
    ·
     have J:m<=20000:=by have:=cI o;omega
     refine w ?_;refine VO.pure rfl rfl (af.fH ah rfl rfl x (show(Ic l)[i*5+4]?=some (.slice (some V) l[i].ks.length l[i].y.2)by rw[mP l i 4 c (by decide),<-v];rfl)) rfl ?_;refine w ?_;refine VO.pure rfl rfl (af.rZ ah rfl rfl t (show(l[i].ks.map fI.ei)[k]?=some l[i].ks[k].ei by rw[law,fL r];rfl)) rfl ?_;refine w ?_;exact VE.round (k+1,m+l[i].ks[k].l.length) ⟨r,by dsimp only;omega⟩ (by dsimp only;omega) ⟨rfl,b7 rfl (by congr 1),rfl,b7 rfl (by congr 1),trivial⟩ ae.refl
    ·
     refine w ?_;exact VE.round (i+1,m) ⟨c,g2⟩ (by dsimp only;omega) ⟨rfl,rfl,b7 rfl (by congr 1),trivial⟩ ae.refl
   ·
    refine w ?_;refine w ?_;exact VE.round (i+1,m) ⟨c,g2⟩ (by dsimp only;omega) ⟨rfl,rfl,b7 rfl (by congr 1),trivial⟩ ae.refl
  ·
   have N:20000<n:=by have:=dx o;omega
   refine w ?_;refine VO.gT rfl rfl rfl (ky zO) ?_;refine w ?_;refine VE.done true rfl ?_ rfl (ae.drop (ae.drop ae.refl));intro q;cases q
 ·
  have E:i=l.length:=by have q:¬((i:Nat):Int)<(l.length:Int):=dx u;omega
  subst E;refine w ?_;refine w ?_;refine zg ?_ ?_<;>intro u
  ·
   refine w ?_;refine VE.done true rfl ?_ rfl (ae.drop (ae.drop ae.refl));intro q;cases q
  ·
   refine w ?_;exact VE.done (decide (200<l.length)) rfl (λq=>⟨by have:¬200<l.length:=dx q;show l.length<=200;omega,z⟩) (by congr 1;rw[KS];show((200:Int)<(l.length:Int))↔_;omega) (ae.drop (ae.drop ae.refl))
end
end Go.Proofs.YtonpidcjpenflaaGreat
namespace Go.Proofs.YtonpidcjpenflaaGreat
open Go.RowKit Go.Sl
attribute [local irreducible] Sl.Own
abbrev kW(z:dN):qJ:=⟨z.t.Y.b,ik z.a,z.X.s*z.X.c,z.X.m,z.X.c,z.X.s⟩
abbrev kH(r:Nat)(z:dN)(R:List ab):List ab:=Row r 81 (kW z).cells::al z.t.Y.b z.t.D::z.O::R
theorem dN.mH.trans{a b c:dN}(h:a.mH b)(g:b.mH c):a.mH c:=⟨g.b.trans h.b,g.m.trans h.m,g.c.trans h.c,g.s.trans h.s,g.ring.trans h.ring,g.lazy.trans h.lazy⟩
theorem HY{z a:dN}(h:z.mH a):(kW z).arr (ik a.a)=kW a:=by unfold kW;rw[h.b,h.m,h.c,h.s]
theorem Nf{z b:dN}(h:z.mH b)(c:b.a=z.a):(kW z).arr (kW z).a=kW b:=by rw[<-HY h,c]
section
variable{W:World}{R:List ab}{z:dN}{r n k q E C:Nat}{V:Nat->Nat->List UInt8}{x:UInt8}{A:mz}
theorem q9{c:dN}{M:List ab}(h:z.mH c)(d:c.a=z.a):ae W (Row r 81 ((kW z).arr (kW z).a).cells::al (kW z).b c.t.D::M) (Row r 81 (kW c).cells::al c.t.Y.b c.t.D::M):=by
 rw[Nf h d,show(kW z).b=c.t.Y.b from h.b.symm];exact ae.refl
theorem Te(h:Rest z n V k x q E C)(d:C<=1000000)(c:A.kind=3):aq W Tryz.prog 8 [eE r,.agg A.cells.toArray] (kH r z R) (β:=dN) (λa=>(Rest a n V k x q E (C+1023)/\z.mH a)/\a.a=z.a) (λa=>.agg (cn 0 dh (eU z.t.D a.t.D)).toArray) (λa=>kH r a R):=
 aq.mono (uq (f:=30) (ar:=true) (X:=kW z) (D:=z.t.D) (S:=z.O) (by rw[c];rfl) (λ_=>rfl) (λ_ _=>by simp) (λ_=>rfl) (Gs (e:=λ_=>0) (Oq h d))) (λy=>y) (λ_ h=>h) (λ_ _=>rfl) (λa b=>q9 b.1.2 b.2)
theorem O3(h:Rest z n V k 1 0 E C)(i:E<4611686018427387904)(g:C<=1000000)(d:A.kind=4)(j:A.slot=k):aq W Tryz.prog 8 [eE r,.agg A.cells.toArray] (kH r z R) (β:=dN) (λa=>(Rest a n V k 2 0 (E+1) (C+40)/\z.mH a)/\a.a=z.a) (λa=>.agg (cn 0 dh (eU z.t.D a.t.D)).toArray) (λa=>kH r a R):=by
 have b:=CO (W:=W) h i g;rw[<-j]at b;exact aq.mono (uq (f:=31) (ar:=false) (X:=kW z) (D:=z.t.D) (S:=z.O) (by rw[d];rfl) (λe=>by cases e) (λ_ _=>by simp) (λ_=>rfl) (J2 (e:=λ_=>0) rfl b)) (λy=>y) (λ_ h=>⟨h.1,h.2.1⟩) (λ_ _=>rfl) (λa c=>q9 c.1.2 c.2.1)
theorem Rh(h:Rest z n V k 1 0 E C)(t:E<4611686018427387000)(s:C<=940000)(m:A.kind=5)(d:A.slot=k):aq W Tryz.prog 8 [eE r,.agg A.cells.toArray] (kH r z R) (β:=dN) (λa=>(Rest a n V k 3 0 (E+2) (C+1103)/\z.mH a)/\a.a=z.a/\a.calm) (λa=>.agg (cn 0 dh (eU z.t.D a.t.D)).toArray) (λa=>kH r a R):=by
 have u:=h.sh.lt;have l:=h.ok.X;have p:z.X.s*z.X.c<=256*16:=mo l.s.2 l.c.2;have i:=CO (W:=W) h zO zO;rw[<-d]at i;refine aq.mono (uq (f:=32) (ar:=true) (X:=kW z) (D:=z.t.D) (S:=z.O) (by rw[m];rfl) (λ_=>rfl) (λ_ _=>by simp) (λ_=>rfl) (B6 (Ac:=λa:dN=>(Rest a n V k 3 0 (E+2) (C+1103)/\z.mH a)/\a.a=z.a/\a.calm) (D':=λa=>a.t.D) (T:=λa=>a.O) (D2:=λz1=>(z1.t.D.swap A.slot (1+((kW z).rows:Int))).2) (by show z.X.s*z.X.c<=_;omega) (by rw[d];show 0<=(k:Int)/\(k:Int)<z.X.m;omega) i (λz1 c=>?_) (λz1 c R=>?_))) (λy=>y) (λ_ h=>h) (λ_ _=>rfl) (λa c=>q9 c.1.2 c.2.1)
 ·
  obtain⟨⟨g1,g2⟩,g3,g4⟩:=c;obtain⟨D',e,_⟩:=g1.swap g4;rw[g2.s,g2.c]at e;have g:z1.t.D.swap A.slot (1+((kW z).rows:Int))=(0,D'):=by rw[d,<-e];congr 1
  rw[g]
 ·
  obtain⟨⟨g1,g2⟩,g3,g4⟩:=c;obtain⟨D',e,o⟩:=g1.swap g4;rw[g2.s,g2.c]at e;have g:z1.t.D.swap A.slot (1+((kW z).rows:Int))=(0,D'):=by rw[d,<-e];congr 1
  dsimp only;rw[g];have j:=Ot (W:=W) o zO zO (kd:= .blank (1+z1.X.s*z1.X.c)) (eZ _ _ _) (by rw[pM];exact eI _) R;rw[<-d]at j;rw[<-g3,<-g2.b];refine aq.mono j (λy=>y) (λz3 b=>⟨⟨?_,g2.trans ⟨b.1.2.b,b.1.2.m,b.1.2.c,b.1.2.s,b.1.2.ring,b.1.2.lazy⟩⟩,b.2.1,b.2.2⟩) (λ_ _=>rfl) (λ_ _=>ae.refl);exact b.1.1
theorem LZ(h:Rest z n V k 3 q E C)(a:z.calm)(g:E<4611686018427387904)(e:C<=950000)(c:A.kind=6):aq W Tryz.prog 8 [eE r,.agg A.cells.toArray] (kH r z R) (β:=dN×Nat) (λy=>(Rest y.1 n V k (RR z.X.s q) (RQ z.X.s q) (E+1) (C+60)/\z.mH y.1)/\y.1.a=z.a/\y.1.calm) (λy=>.agg (cn 0 (.slice (ik y.2) 1 1) (eU z.t.D y.1.t.D)).toArray) (λy=>Row y.2 5 [IM (decide (q+1=z.X.s))]::kH r y.1 R):=
 aq.mono (uq (f:=33) (ar:=true) (X:=kW z) (D:=z.t.D) (S:=z.O) (by rw[c];rfl) (λ_=>rfl) (λ_ _=>by simp) (λ_=>rfl) (J6 (d:=λ_=>decide (q+1=z.X.s)) (Ov h a g e))) (λy=>y) (λ_ h=>h) (λ_ _=>rfl) (λy b=>ae.trans (q9 b.1.2 b.2.1) λw i=>(ae.re:ae W ([y.1.O,Row y.2 5 [IM (decide (q+1=z.X.s))]]++(Row r 81 (kW y.1).cells::al y.1.t.Y.b y.1.t.D::R)) (Row y.2 5 [IM (decide (q+1=z.X.s))]::kH r y.1 R)) w ((i.perm ((List.Perm.cons _ (List.Perm.swap _ _ _)).trans (List.Perm.swap _ _ _))).join))
theorem LX{kl:List fI}(h:Rest z n V k x q E C)(u:x≠2)(g:z.t.v.sure=true)(p:E<4611686018427387904)(o:C<=900000)(m:A.kind=9)(s:∀R,oy W R A.ko kl)(d:kl.length=A.kl)(t:A.n<=0):aq W Tryz.prog 8 [eE r,.agg A.cells.toArray] (kH r z R) (β:=dN) (λc=>(Rest c n V k x q (E+1) (C+3000)/\z.mH c)/\c.calm) (λc=>.agg (cn 0 dh (eU z.t.D c.t.D)).toArray) (λc=>kH r c R):=by
 have j:oD W 36 r (kW z) A z.t.D z.O (β:=dN) (λc=>(Rest c n V k x q (E+1) (C+3000)/\z.mH c)/\c.calm) (λ_=>0) (λ_=>dh) (λc=>ik c.a) (λc=>c.t.D) (λc=>c.O):=
  Nh (a:=λc:dN=>⟨c.a,0,none⟩) s d t (Oo h u g p o (kl.map fI.l))
 have l:=uq (R:=R) (f:=36) (ar:=false) (by rw[m];rfl) (λe=>by cases e) (λ_ _=>by simp) (λ_=>rfl) j;refine aq.mono l (λy=>y) (λ_ h=>h) (λ_ _=>rfl) (λc i=>?_);rw[HY i.1.2,show(kW z).b=c.t.Y.b from i.1.2.b.symm];exact ae.refl
theorem LY(h:Rest z n V k x q E C)(a b:Nat)(l:a+b<=z.X.s*z.X.c* (z.X.m-1))(j:A.kind=1)(g:A.block=a)(i:A.n=b):aq W Tryz.prog 8 [eE r,.agg A.cells.toArray] (kH r z R) (β:=dN×Option Addr×Nat) (λy=>(Rest y.1 n V k x q E C/\z.mH y.1)/\(z.calm->y.1.calm)/\y.1.a=z.a) (λy=>.agg (cn 0 (sliceB y.2 (kI z.X.m z.X.c V a b)) (eU z.t.D y.1.t.D)).toArray) (λy=>b8 y.2 (kI z.X.m z.X.c V a b)::kH r y.1 R):=by
 have c:=Q1 (W:=W) h a b l;rw[<-g,<-i]at c;refine aq.mono (uq (f:=28) (ar:=true) (X:=kW z) (D:=z.t.D) (S:=z.O) (by rw[j];rfl) (λ_=>rfl) (λ_ _=>by simp) (λ_=>rfl) (J3 (e:=λ_=>0) (o:=λ_=>dh) (λ_=>rfl) c)) (λy=>y) (λ_ h=>h) (λ_ _=>rfl) (λy d=>ae.trans (q9 d.1.2 d.2.2) λw m=>?_);exact(ae.re:ae W ([b8 y.2 (kI z.X.m z.X.c V a b),y.1.O]++(Row r 81 (kW y.1).cells::al y.1.t.Y.b y.1.t.D::R)) (b8 y.2 (kI z.X.m z.X.c V a b)::kH r y.1 R)) w ((m.perm ((List.Perm.cons _ (List.Perm.swap _ _ _)).trans (List.Perm.swap _ _ _))).join)
theorem Qu{L:List ab}{B:Nat->List UInt8}{l:List cQ}(h:Rest z n (fy z.X.m z.X.c B) k 1 0 E C)(F:l.length<=256)(G:∀R,iT W (L++R) A.po l)(i:A.pl=l.length)(v:∀p∈l,p.dV<z.X.s*z.X.c* (z.X.m-1))(t:∀b,b<z.X.s*z.X.c* (z.X.m-1)->(B b).length=128)(u:C<=900000)(s:A.kind=2):
  aq W Tryz.prog 8 [eE r,.agg A.cells.toArray] (kH r z (L++R)) (β:=dN) (λc=>(Rest c n (fy z.X.m z.X.c (if z.X.ring<2*dF z.X.m z.X.c l+1 then B else hU l B)) k 1 0 E (C+4000)/\z.mH c)/\c.a=z.a/\(z.t.Y.lazy=false->z.X.ring<2*dF z.X.m z.X.c l+1\/l=[]\/c.t.v.sure=true)) (λc=>.agg (cn (if z.X.ring<2*dF z.X.m z.X.c l+1 then 122 else 0:Nat) dh (eU z.t.D c.t.D)).toArray) (λc=>kH r c (L++R)):=by
 have o:iP W 61 [.pointer (kW z).a,.slice A.po A.pl A.pc] (kW z).b z.t.D (Sl.star (z.O::L)) (β:=dN) (λc=>(Rest c n (fy z.X.m z.X.c (if z.X.ring<2*dF z.X.m z.X.c l+1 then B else hU l B)) k 1 0 E (C+4000)/\z.mH c)/\c.a=z.a/\(z.t.Y.lazy=false->z.X.ring<2*dF z.X.m z.X.c l+1\/l=[]\/c.t.v.sure=true)) (λ_=>i6 ((if z.X.ring<2*dF z.X.m z.X.c l+1 then 122 else 0:Nat):Int)) (λc=>c.t.D) (λc=>Sl.star (c.O::L)):=λR=>by
  have g:=Ow (W:=W) (R:=L++R) (cap:=A.pc) h F (G R) v t u;rw[<-i]at g;exact fX (λw d=>((d.swap.join).perm (qY (l₁:=z.O::L)))) (aq.mono g (λy=>y) (λ_ h=>h) (λ_ _=>by congr 1;split<;>rfl) (λc _ w d=>((d.perm (qY (l₁:=c.O::L)).symm).nest (L:=c.O::L)).swap))
 have g:∀(zz:dN)(X Y:ab),(X::Y::zz.O::(L++R)).Perm ((zz.O::L)++(X::Y::R)):=λzz X Y=>((qY (l₁:=zz.O::L) (a:=X) (l₂:=Y::R)).trans (List.Perm.cons X (qY (l₁:=zz.O::L) (a:=Y) (l₂:=R)))).symm;have j:∀(P X Y:ab),(P::X::Y::R).Perm (X::Y::P::R):=λP X Y=>(List.Perm.swap X P _).trans (List.Perm.cons X (List.Perm.swap Y P _));refine fX (λw d=>(((d.perm (g z _ _)).nest).perm (j _ _ _))) (aq.mono (uq (f:=29) (ar:=true) (X:=kW z) (D:=z.t.D) (S:=Sl.star (z.O::L)) (by rw[s];rfl) (λ_=>rfl) (λ_ _=>by simp) (λ_=>rfl) (Gu (e:=λ_=>if z.X.ring<2*dF z.X.m z.X.c l+1 then 122 else 0) o)) (λy=>y) (λ_ h=>h) (λ_ _=>rfl) (λc m=>ae.trans (q9 m.1.2 m.2.1) λw d=>((d.perm (j _ _ _).symm).join).perm (g c _ _).symm))
end
end Go.Proofs.YtonpidcjpenflaaGreat
namespace Go.Proofs.YtonpidcjpenflaaGreat
open Go.RowKit Go.Sl
attribute [local irreducible] Sl.Own
section
variable{W:World}{R:List ab}
theorem Fm(a:Nat)(X:aY)(c:X.ok)(b:X.ro=false)(e:∀j (h:j<X.st.length),X.st[j]≠3):az W Tryz.prog 69 [ip a] (Row a 102 X.cells::dz X::R) (.tuple #[.bool false,i6 160]) (Row a 102 X.cells::dz X::R):=by
 have f:=c.m;have d:=c.st;refine aq.oL Tryz.func69 Tryz.ntmps69 rfl rfl ?_;refine wr ?_;refine zj λ_=>?_;refine wr ?_;rename_i g;refine zq ?_;refine ay.alloc (z:=(i6 0)) (λw=>by simp) rfl rfl ?_;intro ne;refine wr ?_;refine VR.iF rfl rfl rfl rfl ?_;refine wr ?_;refine zr (s:=jD a X) (h:=?_);intro _ _;refine wr ?_;refine VR.aK rfl rfl (b) ?_;refine wr ?_;refine zr (s:=y7 X X.st.length zO (eI _) (λj h _=>e j h) (λh=>cN h (RC _))) (h:=?_);intro _ _;rw[aE (RC _)];refine wr ?_;refine zq ?_;refine ay.alloc (z:=(ii 0)) (λw=>by simp) rfl rfl ?_;intro i;refine wr ?_;refine VF.aR (H':=Row ne 40 [i6 160]::Row a 102 X.cells::dz X::R) ae.re ?_;exact VF.tg (.inl rfl) (λ_ _=>by simp) gp () rfl (.tmp rfl) (aL.leaf ah rfl rfl (.head _) rfl) trivial rfl (ae.drop ae.refl)
variable{z:dN}{r n k q E C:Nat}{V:Nat->Nat->List UInt8}{x:UInt8}{A:mz}
theorem O4(h:Rest z n V k 1 0 E C)(i:A.kind=6):aq W Tryz.prog 8 [eE r,.agg A.cells.toArray] (kH r z R) (β:=Unit) (λ_=>True) (λ_=>.agg (cn 160 dh (eU z.t.D z.t.D)).toArray) (λ_=>kH r z R):=by
 have c:iP W 69 [.pointer (kW z).a] (kW z).b z.t.D z.O (β:=Unit) (λ_=>True) (λ_=>.tuple #[.bool false,i6 ((160:Nat):Int)]) (λ_=>z.t.D) (λ_=>z.O):=λR=>by
  have g:=Li (W:=W) (f:=69) (args:=[.pointer (kW z).a]) (b:=z.t.Y.b) (D:=z.t.D) (z:=z) (β:=Unit) (Ac:=λ_=>True) (rv:=λ_=>.tuple #[.bool false,i6 160]) (D':=λ_=>z.t.D) (T:=λ_=>z.L) λR=>fX ae.re (aq.mono (Fm (R:=Row z.r 142 z.t.Y.cells::Sl.Own 3 1 (.slice (ik z.t.Y.fa) z.t.Y.m z.t.Y.m) z.t.Y.m (j8 (bU z.X))::bz z.w z.t.Y.b z.t.v::bL z.x z.ps::bX z.ps::al z.t.Y.b z.t.D::R) z.a z.X h.ok.X h.ok.ro (λj l e=>by have:=h.sh.all _ (fF l);rw[e]at this;exact cN this (by decide))) (λy=>y) (λ_ h=>h) (λ_ _=>rfl) (λ_ _=>ae.re));exact g R
 exact aq.mono (uq (f:=33) (ar:=true) (X:=kW z) (D:=z.t.D) (S:=z.O) (by rw[i];rfl) (λ_=>rfl) (λ_ _=>by simp) (λ_=>rfl) (Gt (e:=λ_=>160) (λ_=>by decide) (d:=λ_=>false) c)) (λy=>y) (λ_ h=>h) (λ_ _=>rfl) (λ_ _=>q9 (dN.mH.refl z) rfl)
theorem Sd(h:Rest z n V k x q E C):aq W Tryz.prog 10 [eE r] (kH r z R) (β:=Option Addr×Nat) (λ_=>True) (λy=>.tuple #[.agg (lP (vU.sup z.X y) false z.t.Y.wl.length z.t.v.used).toArray,.bool true]) (λ_=>kH r z R):=
 fX (H':=Row r 81 (kW z).cells::z.O::al z.t.Y.b z.t.D::R) ae.re (aq.mono (Er (X:=kW z) (S:=z.O) (Ac:=λ_=>True) (sd:=λy=>vU.sup z.X y) (T:=λy=>Sl.star (Kq z y::z.L)) rfl (Ou h)) (λy=>y) (λ_ h=>h) (λ_ _=>rfl) (λy _ w a=>
  (ae.re:ae W (z.O::(Row r 81 (kW z).cells::al z.t.Y.b z.t.D::R)) (kH r z R)) w (((a.swap).join:Holds W (Kq z y::(z.L++(Row r 81 (kW z).cells::al z.t.Y.b z.t.D::R))) w).tail.nest)))
end
end Go.Proofs.YtonpidcjpenflaaGreat
namespace Go.Proofs.YtonpidcjpenflaaGreat
open Go.RowKit Go.Sl
attribute [local irreducible] Sl.Own
section
variable{α:Type}
theorem zU(x:Int×α)(r:List (Int×α))(k:Int):fj (x::r) k=if x.1=k then some x.2 else fj r k:=by
 unfold fj;rw[List.find?_cons];by_cases e:x.1=k
 · rw[lam e,ky e];rfl
 · rw[aE e,gx e]
theorem Bp{l:List (Int×α)}{k:Int}(h:k∉l.map (·.1)):l.filter (λx=>x.1≠k)=l:=
 List.filter_eq_self.2 λx a=>ky λe=>h (fG.2 ⟨x,a,e⟩)
theorem uE(k:Int)(v:α):∀{l:List (Int×α)},(l.map (·.1)).Nodup->(mq l k v).length=l.length+(if(fj l k).isSome then 0 else 1)
  |[],_=>rfl
  |x::r,h=>by
    have a:=uE k v (List.nodup_cons.1 h).2;unfold mq at a⊢;rw[c9,ie]at a⊢;rw[zU,tc,List.filter_cons];by_cases e:x.1=k
    · have b:k∉r.map (·.1):=e▸(List.nodup_cons.1 h).1
      rw[aE (by simp[e]),lam e,Bp b];rfl
    · rw[lam (by simp[e]),aE e,tc]
      omega
theorem Ia{r:Int}{es:List (Int×α)}(g:List (Int×α)->List (Int×α)):∀{P:List (Int×List (Int×α))},(P.map (·.1)).Nodup->fj P r=some es->(P.map λs=>(if s.1=r then g s.2 else s.2).length).sum+es.length=(P.map λs=>s.2.length).sum+(g es).length
  |[],_,h=>(by cases h)
  |x::q,h,e=>by
    rw[zU]at e;rw[pS,pS,List.sum_cons,List.sum_cons];by_cases c:x.1=r
    · rw[lam c]at e
      have e:=CD e
      have a:r∉q.map (·.1):=c▸(List.nodup_cons.1 h).1
      have b:(q.map λs=>(if s.1=r then g s.2 else s.2).length)=q.map λs=>s.2.length:=HF λs d=>by
        rw[aE λe=>a (fG.2 ⟨s,d,e⟩)]
      rw[b,lam c,e]
      omega
    · rw[aE c]at e
      have f:=Ia g (List.nodup_cons.1 h).2 e
      rw[aE c]
      omega
theorem Cm{P:List (Int×List (Int×α))}{r:Int}(h:(P.map (·.1)).Nodup):((gK P r).map (·.1)).Nodup:=by
 unfold gK;split
 · exact h
 ·
  rename_i e;rw[jv,List.nodup_append];refine⟨h,by simp,λa c b d=>?_⟩;rw[List.map_singleton,ju]at d;rintro rfl;rw[d]at c;exact e (mE.2 c)
theorem Kn(P:List (Int×List (Int×α)))(r k:Int)(v:α):(tV P r k v).map (·.1)=P.map (·.1):=by unfold tV;rw[oS];rfl
end
structure S7(P:List (Int×List (Int×List UInt8))):Prop where
  one:(P.map (·.1)).Nodup
  each:∀s∈P,(s.2.map (·.1)).Nodup
theorem S7.put{P:List (Int×List (Int×List UInt8))}(h:S7 P)(r k:Int)(v:List UInt8):S7 (sy P r k v):=by
 unfold sy;refine⟨by rw[Kn];exact Cm h.one,λs c=>?_⟩;unfold tV at c;obtain⟨t,a,rfl⟩:=fG.1 c;have b:(t.2.map (·.1)).Nodup:=by
  unfold gK at a;split at a
  · exact h.each t a
  ·
   rcases l0.1 a with q|q
   · exact h.each t q
   · rw[ju.1 q];exact List.nodup_nil
 split
 · exact xL b k v
 · exact b
theorem P6(m c:Nat)(l:List cQ):S7 (kD m c l):=by
 induction l using lH with
 |nil=>exact⟨List.nodup_nil,λs a=>(uy a).elim⟩
 |snoc l p b=>rw[jN];exact b.put _ _ _
abbrev Sv(P:List (Int×List (Int×List UInt8))):Nat:=P.length+(P.map λs=>s.2.length).sum
theorem Nu{P:List (Int×List (Int×List UInt8))}(h:S7 P)(r k:Int)(v:List UInt8):Sv (sy P r k v)=Sv P+(if(Du P r k).isSome then 0 else 1)+(if(fj P r).isSome then 0 else 1):=by
  have b:∀Q:List (Int×List (Int×List UInt8)),(tV Q r k v).map (λs=>s.2.length)=Q.map λs=>(if s.1=r then mq s.2 k v else s.2).length:=λQ=>by unfold tV;rw[oS];rfl
  have a:∀Q:List (Int×List (Int×List UInt8)),(tV Q r k v).length=Q.length:=λQ=>by unfold tV;rw[ew]
  unfold Sv sy;rw[b,a];unfold Du;cases e:fj P r with
  |none=>
    have n:r∉P.map (·.1):=λq=>by have:=mE.2 q;rw[e]at this;cases this
    have c:gK P r=P++[(r,[])]:=by unfold gK;rw[e];rfl
    have t:(P.map λs=>(if s.1=r then mq s.2 k v else s.2).length)=P.map λs=>s.2.length:=HF λs d=>by
      rw[aE λe=>n (fG.2 ⟨s,d,e⟩)]
    rw[c,jv,t,c9,List.sum_append];simp[mq];omega
  |some es=>
    have c:gK P r=P:=by unfold gK;rw[e];rfl
    have p:(es.map (·.1)).Nodup:=by
      have:(r,es)∈P:=by
        unfold fj at e;cases f:P.find? (λx=>x.1=r)with
        |none=>rw[f]at e;cases e
        |some x=>
          rw[f]at e;have g:=List.find?_some f;have i:=List.mem_of_find?_eq_some f;have j:x.2=es:=CD e;have m:x.1=r:=cI g;rw[<-j,<-m];exact i
      exact h.each _ this
    rw[c];have d:=Ia (λl=>mq l k v) h.one e;have o:=uE k v p;rw[o]at d;show P.length+_=P.length+_+(if(fj es k).isSome=true then 0 else 1)+0;omega
theorem Me(m c:Nat)(l:List cQ)(r:Int):(fj (kD m c l) r).isSome=decide (∃q∈l,((cJ m c q.dV).row:Int)=r):=by
  induction l using lH with
  |nil=>rw[gx (by simp)];rfl
  |snoc l p a=>
    rw[jN];unfold sy;rw[Hw,Option.isSome_map,zV];by_cases e:r=((cJ m c p.dV).row:Int)
    · rw[lam e,ky ⟨p,by simp,e.symm⟩];rfl
    · rw[aE e,a,KS]
      constructor
      · rintro⟨q,hq,g⟩;exact⟨q,List.mem_append_left _ hq,g⟩
      · rintro⟨q,hq,g⟩
        rcases l0.1 hq with hq|hq
        · exact⟨q,hq,g⟩
        · rw[ju.1 hq]at g;exact cN g.symm e
theorem An{m c:Nat}(i:3<=m)(f:1<=c)(l:List cQ)(p:cQ):dF m c (l++[p])=dF m c l+(if ∃q∈l,q.dV=p.dV then 0 else 1)+(if ∃q∈l,(cJ m c q.dV).row=(cJ m c p.dV).row then 0 else 1):=by
 have h:=Nu (P6 m c l) (cJ m c p.dV).row (cJ m c p.dV).av p.d.data;rw[<-jN,Me,wN]at h;have d:∀b,wj m c (cJ m c b).av (cJ m c b).row=b:=λb=>(u9 i f).1;have e:(iG m c l (cJ m c p.dV).row (cJ m c p.dV).av).isSome=decide (∃q∈l,q.dV=p.dV):=by
  unfold iG;rw[Option.isSome_map,Bool.eq_iff_iff,List.find?_isSome,decide_eq_true_iff];constructor
  ·
   rintro⟨q,a,g⟩;have g:=cI g;exact⟨q,KQ.1 a,by rw[<-d q.dV,<-d p.dV,Int.ofNat_inj.1 g.1,Int.ofNat_inj.1 g.2]⟩
  ·
   rintro⟨q,a,g⟩;exact⟨q,KQ.2 a,ky (by rw[g];exact⟨rfl,rfl⟩)⟩
 rw[e]at h;simp only[decide_eq_true_eq,Int.ofNat_inj]at h;exact h
end Go.Proofs.YtonpidcjpenflaaGreat
namespace Go.Proofs.YtonpidcjpenflaaGreat
open Go.RowKit Go.Sl
attribute [local irreducible] Sl.Own
def fe(B:Nat->List UInt8)(n:Nat):List UInt8:=(List.range n).flatMap B
theorem lk{B:Nat->List UInt8}{n:Nat}(h:∀b,b<n->(B b).length=128):(fe B n).length=n*128:=by
 unfold fe;rw[cW (List.range n) λa c=>h a (HC.1 c),KN]
theorem tD{α:Type}(f:Nat->α)(n j:Nat)(x:α)(c:j<n):((List.range n).map f).set j x=(List.range n).map λi=>if i=j then x else f i:=by
 refine BF (by simp) λi a b=>?_;rw[List.getElem_set,Jz,Jz,List.getElem_range];by_cases e:j=i
 · rw[lam e,lam e.symm]
 · rw[aE e,aE λq=>e q.symm]
theorem Le{B:Nat->List UInt8}{n b:Nat}{d:List UInt8}(h:∀b,b<n->(B b).length=128)(c:b<n)(l:d.length=128):(fe B n).take (b*128)++d++(fe B n).drop (b*128+128)=fe (λi=>if i=b then d else B i) n:=by
 have e:fe B n=((List.range n).map B).flatMap λx=>x:=by unfold fe;rw[List.flatMap_map]
 have f:fe (λi=>if i=b then d else B i) n=((List.range n).map λi=>if i=b then d else B i).flatMap λx=>x:=by unfold fe;rw[List.flatMap_map]
 rw[e,f,wI (g:=λx:List UInt8=>x) d _ b (by simp;exact c) (λa j=>by
  obtain⟨i,k,rfl⟩:=fG.1 j;exact h i (HC.1 k)),tD B n b d c]
theorem FW(l:List cQ)(p:cQ)(b:Nat):w5 (l++[p]) b=if b=p.dV then some p.d.data else w5 l b:=by
 unfold w5;rw[TW,List.reverse_singleton,List.singleton_append,List.find?_cons];by_cases e:p.dV=b
 · rw[ky e,lam e.symm];rfl
 · rw[gx e,aE λq=>e q.symm]
theorem JT(l:List cQ)(p:cQ)(B:Nat->List UInt8):hU (l++[p]) B=λb=>if b=p.dV then p.d.data else hU l B b:=funext λb=>by
 unfold hU;rw[FW];split<;>rfl
theorem Hh{m c:Nat}(b:3<=m)(a:1<=c)(B:Nat->List UInt8)(k q:Nat):kI m c (fy m c B) k q=(List.range q).flatMap λj=>B (k+j):=by
 unfold kI;congr 1;funext j;exact Qh b a (k+j)
theorem C5{m c:Nat}(b:3<=m)(a:1<=c)(B:Nat->List UInt8)(q:Nat):kI m c (fy m c B) 0 q=fe B q:=by
 rw[Hh b a];unfold fe;congr 1;funext j;rw[ou]
def td(A:List UInt8)(o:Nat)(x:UInt8)(j:Nat):List UInt8:=A.take o++List.replicate j x++A.drop (o+j)
theorem Mv{A:List UInt8}{o j:Nat}(x:UInt8)(h:o+j<=A.length):(td A o x j).length=A.length:=by
 unfold td;rw[c9,c9,j1,j0,CC];omega
theorem Mw{A:List UInt8}{o j:Nat}(x:UInt8)(h:o+j<A.length):(td A o x j).set (o+j) x=td A o x (j+1):=by
 unfold td;rw[lx,JB _ _ (by rw[j1];omega),j1,Nat.min_eq_left zO,Nat.add_sub_cancel_left,JB _ _ (by rw[j0];exact eI _),j0,BH,E5 h,List.set_cons_zero,List.replicate_succ',lx,lx];rfl
theorem JA(A:List UInt8)(o:Nat)(x:UInt8):td A o x 0=A:=by unfold td;simp
abbrev oQ(l:List cQ)(n:Nat):List Bool:=(List.range n).map λb=>decide (∃q∈l,q.dV=b)
abbrev pe(m c:Nat)(l:List cQ)(n:Nat):List Bool:=(List.range n).map λr=>decide (∃q∈l,(cJ m c q.dV).row=r)
theorem Jt(l:List cQ)(p:cQ)(n:Nat)(h:p.dV<n):(oQ l n).set p.dV true=oQ (l++[p]) n:=by
 unfold oQ;rw[tD _ _ _ _ h];refine HF λi _=>?_;by_cases e:i=p.dV
 · rw[lam e,ky ⟨p,by simp,e.symm⟩]
 ·
  rw[aE e,KS];constructor
  · rintro⟨q,hq,g⟩;exact⟨q,List.mem_append_left _ hq,g⟩
  ·
   rintro⟨q,hq,g⟩;rcases l0.1 hq with hq|hq
   · exact⟨q,hq,g⟩
   · rw[ju.1 hq]at g;exact cN g.symm e
theorem J7(m c:Nat)(l:List cQ)(p:cQ)(n:Nat)(h:(cJ m c p.dV).row<n):(pe m c l n).set (cJ m c p.dV).row true=pe m c (l++[p]) n:=by
 unfold pe;rw[tD _ _ _ _ h];refine HF λi _=>?_;by_cases e:i=(cJ m c p.dV).row
 · rw[lam e,ky ⟨p,by simp,e.symm⟩]
 ·
  rw[aE e,KS];constructor
  · rintro⟨q,hq,g⟩;exact⟨q,List.mem_append_left _ hq,g⟩
  ·
   rintro⟨q,hq,g⟩;rcases l0.1 hq with hq|hq
   · exact⟨q,hq,g⟩
   · rw[ju.1 hq]at g;exact cN g.symm e
structure sG where
  m:Nat
  c:Nat
  s:Nat
  ring:Nat
  lazy:Bool
  r:Nat
  w:Option Addr×Nat
  wb:List UInt8
  bf:Option Addr×Nat×Nat
  there:Bool
  last:Nat
abbrev sG.nb(X:sG):Nat:=X.s*X.c* (X.m-1)
abbrev sG.cells(X:sG):List Value:=[ii X.m,ii X.c,ii X.s,ii X.ring,.bool X.lazy,eE X.r,.slice X.w.1 X.wb.length X.w.2,.slice X.bf.1 X.bf.2.1 X.bf.2.2,.slice none 0 0,ii X.nb,ii (-1),.bool false,.bool X.there,i6 X.last,.bool false]
abbrev kQ(p:Nat)(X:sG)(R:List ab):List ab:=Row p 42 X.cells::b8 X.w X.wb::R
structure sG.ok(X:sG):Prop where
  m:3<=X.m/\X.m<=16
  c:1<=X.c/\X.c<=16
  s:1<=X.s/\X.s<=256
  nb:X.nb<=40000
  ring:X.ring<=2048
abbrev vT(x:Option Addr×Nat)(l:List cQ):ab:=Sl.Own 68 2 (.slice x.1 l.length x.2) l.length (putCells l)
structure S6 where
  l:List cQ
  po:Option Addr×Nat
  ao:Option Addr×Nat
structure Qn(X:sG)(l:List cQ):Prop where
  len:l.length<=100
  dV:∀p∈l,p.dV<X.nb
  n:∀p∈l,p.d.data.length=128
abbrev QV(p:Nat)(X:sG)(B:Nat->List UInt8)(l:List cQ)(a ao:Option Addr×Nat)(R:List ab):List ab:=vT a l::cP (l.map cQ.d)::b8 ao (fe (hU l B) X.nb)::kQ p X R
theorem BJ{m c:Nat}(b:3<=m)(a:1<=c)(l:List cQ):dF m c l<=2*l.length:=by
  induction l using lH with
  |nil=>exact eI _
  |snoc l p f=>
    rw[An b a,c9,ie];have d:(if ∃q∈l,q.dV=p.dV then 0 else 1)<=1:=by split<;>decide
    have e:(if ∃q∈l,(cJ m c q.dV).row=(cJ m c p.dV).row then 0 else 1)<=1:=by split<;>decide
    omega
abbrev S5(p:Nat)(X:sG)(pl a:List cQ)(e f g:Nat)(x:UInt8)(d:Addr)(pc b:Nat)(A:List UInt8)(c:Option Addr×Nat)(cs:List Value)(k:Nat)(D:List aU)(R:List ab):List ab:=
  b8 (ik g,128) (List.replicate 128 x)::Sl.Own 5 1 (.slice (some d) b pc) b (bytes A)::Sl.Own 4 1 (.slice (ik e) X.nb X.nb) X.nb (cT (oQ pl X.nb))::Sl.Own 4 1 (.slice (ik f) (X.s*X.c:Nat) (X.s*X.c:Nat)) (X.s*X.c) (cT (pe X.m X.c a (X.s*X.c)))::Sl.Own 68 2 (.slice c.1 k c.2) k cs::cP D::kQ p X R
theorem NU{m c s b:Nat}(e:3<=m)(d:1<=c)(a:b<s*c* (m-1)):(cJ m c b).row<s*c:=(BV e d a).1
section
variable{W:World}{R:List ab}
theorem NV{p:Nat}{X:sG}{B:Nat->List UInt8}{bo:Option Addr}{bc:Nat}{l:List sJ}(hX:X.ok)(hB:∀b,b<X.nb->(B b).length=128)(G:X.wb=fe B X.nb)(hl:A7 W bo l):
  aq W Tryz.prog 17 [eE p,.slice bo l.length bc] (kQ p X R) (β:=S6) (λy=>Qn X y.l) (λy=>.tuple #[.slice y.po.1 y.l.length y.po.2,.slice y.ao.1 (fe (hU y.l B) X.nb).length y.ao.2,ii ((2*dF X.m X.c y.l+1:Nat):Int)]) (λy=>QV p X B y.l y.po y.ao R):=by
 have hm:=hX.m;have o:=hX.c;have hs:=hX.s;have cw:=hX.nb;have ck:=hl.len;have cY:X.wb.length=X.nb*128:=by rw[G,lk hB]
 refine ze Tryz.func17 Tryz.ntmps17 ?_;refine VO.aR (λw G=>G.aZ 5 1) ?_;refine zq ?_;refine ay.append (k:=0) (m:=X.wb.length) (news:=bytes X.wb) eH rfl rfl .head (λw G=>(show jW w 1 (.slice X.w.1 X.wb.length X.w.2) X.wb.length (bytes X.wb)from jW.own (e:=5) (aQ _) G zm).src eH.tZ) (by simp only[maxLen];omega) zO rfl ?_;intro ao cap;rw[ou X.wb.length,BI];refine zw ?_;refine ay.dd NI rfl rfl rfl ?_ ?_ rfl ?_
 · omega
 · simp only[maxLen];omega
 intro r;refine w ?_;have T:X.s*X.c<=256*16:=mo hs.2 o.2;have cb:(0:Int)<=(X.s:Int)*X.c/\(X.s:Int)*X.c<=4096:=by rw[<-Int.natCast_mul];exact⟨Int.natCast_nonneg _,Int.ofNat_le.2 T⟩
 refine zx [] 10 [0,1,2,3,4,5,6,7,8,9,10,11,12] (Sl.Own 4 1 (.slice (ik r) X.nb X.nb) X.nb (List.replicate X.nb (.bool false))::Sl.Own 5 1 (.slice ao X.wb.length cap) X.wb.length (bytes X.wb)::kQ p X R) ?_;refine w ?_;refine VD.re 39 (ii ((X.s*X.c:Nat):Int)) rfl (by congr 1) ?_;refine zq ?_;refine ay.dd NI rfl rfl rfl ?_ ?_ rfl ?_
 · omega
 · simp only[maxLen];omega
 intro t;refine w ?_;have e0:Sl.Own 4 1 (.slice (ik r) X.nb X.nb) X.nb (List.replicate X.nb (.bool false))=Sl.Own 4 1 (.slice (ik r) X.nb X.nb) X.nb (cT (oQ [] X.nb)):=by
  congr 1;unfold cT oQ;rw[oS];refine BF (by simp) λi h1 h2=>by simp
 have e1:Sl.Own 4 1 (.slice (ik t) (X.s*X.c:Nat) (X.s*X.c:Nat)) (X.s*X.c) (List.replicate (X.s*X.c) (.bool false))=Sl.Own 4 1 (.slice (ik t) (X.s*X.c:Nat) (X.s*X.c:Nat)) (X.s*X.c) (cT (pe X.m X.c [] (X.s*X.c))):=by
  congr 1;unfold cT pe;rw[oS];refine BF (by simp) λi h1 h2=>by simp
 rw[e0,e1,G];refine VC.aR (λw G=>Holds.aZ 68 2 (di (res:=aU.res) G)) ?_
 refine VC.loop (α:=S6×Nat) (λy=>(y.2<=l.length/\y.2<=100/\y.1.l.length=y.2)/\Qn X y.1.l) (λy=>Sl.Own 4 1 (.slice (ik r) X.nb X.nb) X.nb (cT (oQ y.1.l X.nb))::Sl.Own 4 1 (.slice (ik t) (X.s*X.c:Nat) (X.s*X.c:Nat)) (X.s*X.c) (cT (pe X.m X.c y.1.l (X.s*X.c)))::QV p X B y.1.l y.1.po y.1.ao R)
  (λy=>[(0,eE p),(1,.slice bo l.length bc),(7,.slice y.1.po.1 y.1.l.length y.1.po.2),(8,.slice y.1.ao.1 (fe (hU y.1.l B) X.nb).length y.1.ao.2),(9,.slice (ik r) X.nb X.nb),(10,.slice (ik t) (X.s*X.c:Nat) (X.s*X.c:Nat)),(11,ii ((dF X.m X.c y.1.l:Nat):Int)),(12,ii y.2)]) (λy=>l.length-y.2) rfl (⟨[],(none,0),(ao,cap)⟩,0) ⟨⟨c7 _,c7 _,rfl⟩,⟨c7 _,λq N=>(uy N).elim,λq N=>(uy N).elim⟩⟩ ae.re ⟨rfl,rfl,rfl,rfl,rfl,rfl,rfl,rfl,trivial⟩ ?_
 rintro⟨⟨pl,po,F⟩,i⟩ ⟨⟨hi,Q,bf⟩,v⟩;dsimp only at hi Q bf v⊢;have bG:=BJ hm.1 o.1 pl;refine w ?_;have bb:1<=X.nb:=mo (mo hs.1 o.1) (show 1<=X.m-1 by omega);refine zg ?_ ?_<;>intro Z
 ·
  have M:i<l.length:=by have:=cI Z;omega
  refine w ?_;refine zk ?_ ?_<;>intro O
  ·
   have U:i<100:=by have:=cI O;omega
   clear Z O;obtain⟨M0,br⟩:∃M0,M0=(Sl.Own 4 1 (.slice (ik r) X.nb X.nb) X.nb (cT (oQ pl X.nb))::Sl.Own 4 1 (.slice (ik t) (X.s*X.c:Nat) (X.s*X.c:Nat)) (X.s*X.c) (cT (pe X.m X.c pl (X.s*X.c)))::QV p X B pl po F R):=⟨_,rfl⟩;have hr:=hl.gz M0;rw[br]at hr;obtain⟨ba,rfl⟩:=iK hr.nil zO;have ag:=hl.fit _ (fF M);refine w ?_;refine VC.quiet rfl (by kernel_rfl) (by kernel_rfl) ?_;refine w ?_;refine VQ.pure rfl rfl (af.fH ah rfl rfl hr (zf l i 0 M (by decide))) rfl ?_;refine w ?_;refine VQ.re 56 (ii l[i].b) rfl (by rw[IntWalk.i64_in _ ⟨by omega,by omega⟩]) ?_;refine VQ.pure rfl rfl (af.rem (a:=l[i].b) (b:=X.nb) rfl rfl zO) rfl ?_;refine w ?_;refine VO.pure rfl rfl (af.fH ah rfl rfl hr (zf l i 1 M (by decide))) rfl ?_;refine zr (s:=ru ag.2) (h:=?_);intro c _;refine w ?_;obtain⟨b,Z⟩:∃b,b=l[i].b%X.nb:=⟨_,rfl⟩;have n:b<X.nb:=by rw[Z];exact nE _ bb
   obtain⟨x,hx⟩:∃x,x=UInt8.ofNat l[i].f:=⟨_,rfl⟩;obtain⟨d,D⟩:∃d:cQ,d=⟨b,⟨ik c,128,List.replicate 128 x⟩⟩:=⟨_,rfl⟩;have K:d.cells=[ii b,.slice (ik c) 128 128]:=by rw[D];simp[aU.ei]
   rw[<-Z,<-hx];refine VO.pure rfl rfl (af.build Nr rfl (show aC _ _ _=some [ii b,.slice (ik c) 128 128]by simp[aC,bR,Value.cells])) rfl ?_;refine zq ?_;refine ay.buildSlice (cs:=[ii b,.slice (ik c) 128 128]) NH rfl rfl (by simp[Value.cells]) (by simp[Value.cells]) (by decide) rfl ?_;intro nc;refine zq ?_;refine ay.cg NH rfl rfl zh zm rfl (by simp[Value.oneCell']) (by simp only[maxLen];omega) zO rfl ?_;intro C z;refine w ?_;obtain⟨A,hA⟩:∃A,A=fe (hU pl B) X.nb:=⟨_,rfl⟩;have V:∀b,b<X.nb->(hU pl B b).length=128:=o5 v.n hB;have bp:A.length=X.nb*128:=by rw[hA,lk V]
   have I:=NU (s:=X.s) hm.1 o.1 n;have cy:b*128+128<=X.nb*128:=by have:=w9 128 (show b+1<=X.nb from n);omega
   rw[<-hA];refine VC.bH (p:=F.1=none->A.length=0) (λw G=>(G.fk (L:=b8 F A:: []) (by(repeat first|exact .refl|(apply aP.cons;focus repeat first|exact .head|apply nW.tail)|exact .nil|apply aP.drop))).bn (.head _)) ?_;intro ca;obtain⟨pa,pc⟩:=F;obtain⟨u,rfl⟩:=iK ca zO
   refine VC.loop (α:=Nat) (λj=>j<=128) (λj=>b8 (ik c,128) (List.replicate 128 x)::Sl.Own 5 1 (.slice (some u) A.length pc) A.length (bytes (td A (b*128) x j))::Sl.Own 4 1 (.slice (ik r) X.nb X.nb) X.nb (cT (oQ pl X.nb))::Sl.Own 4 1 (.slice (ik t) (X.s*X.c:Nat) (X.s*X.c:Nat)) (X.s*X.c) (cT (pe X.m X.c pl (X.s*X.c)))::Sl.Own 68 2 (.slice C (pl.length+1) z) (pl.length+1) (putCells pl++[ii b,.slice (ik c) 128 128])::cP (pl.map cQ.d)::kQ p X R)
    (λj=>[(0,eE p),(1,.slice (some ba) l.length bc),(7,.slice C (pl.length+1:Nat) z),(8,.slice (some u) A.length pc),(9,.slice (ik r) X.nb X.nb),(10,.slice (ik t) (X.s*X.c:Nat) (X.s*X.c:Nat)),(11,ii ((dF X.m X.c pl:Nat):Int)),(12,ii i),(13,ii b),(14,.slice (ik c) 128 128),(15,ii j)]) (λj=>128-j) rfl 0 (c7 _) (by rw[JA];exact ae.re) ⟨rfl,rfl,rfl,rfl,rfl,rfl,rfl,rfl,rfl,rfl,rfl,trivial⟩ ?_
   intro j hj;refine w ?_;refine zk ?_ ?_<;>intro O
   ·
    have au:j<128:=by have:=cI O;omega
    clear O;have hb1:aV W (b8 (ik c,128) (List.replicate 128 x)::Sl.Own 5 1 (.slice (some u) A.length pc) A.length (bytes (td A (b*128) x j))::Sl.Own 4 1 (.slice (ik r) X.nb X.nb) X.nb (cT (oQ pl X.nb))::Sl.Own 4 1 (.slice (ik t) (X.s*X.c:Nat) (X.s*X.c:Nat)) (X.s*X.c) (cT (pe X.m X.c pl (X.s*X.c)))::Sl.Own 68 2 (.slice C (pl.length+1) z) (pl.length+1) (putCells pl++[ii b,.slice (ik c) 128 128])::cP (pl.map cQ.d)::kQ p X R) 1 (ik c) 128 (bytes (List.replicate 128 x)):=aV.own (aQ _) (.head _) (by simp) (by simp);refine w ?_;have an:(bytes (List.replicate 128 x))[j]?=some (gv x):=by unfold bytes;rw[law,Og,lam au];rfl
    refine VO.pure rfl rfl (af.rZ ah rfl rfl hb1 an) rfl ?_;refine VO.re 84 (ii ((b*128+j:Nat):Int)) rfl (by congr 1) ?_;refine zw ?_;refine ay.EJ ah rfl rfl rfl rfl zh (by rw[ff,Mv x zO];omega) ?_;rw[show(bytes (td A (b*128) x j)).set (b*128+j) (gv x)=bytes (td A (b*128) x (j+1))by unfold bytes;rw[<-List.map_set,Mw x zO]];refine w ?_;exact VE.round (j+1) au zO ⟨rfl,rfl,rfl,rfl,rfl,rfl,rfl,rfl,rfl,rfl,b7 rfl (by congr 1),trivial⟩ ae.re
   obtain rfl:j=128:=by have:=dx O;omega
   clear O hj;have bm:bytes (td A (b*128) x 128)=bytes (fe (hU (pl++[d]) B) X.nb):=by
    unfold td;rw[hA,Le V n (by rw[j0]),JT,D]
   have S:(fe (hU (pl++[d]) B) X.nb).length=A.length:=by
    rw[bp,lk (o5 (λq N=>(l0.1 N).elim (v.n q) λg=>by rw[ju.1 g,D];exact j0) hB)]
   have em:(X.m:Int)-1=((X.m-1:Nat):Int):=by omega
   have P:1<=(X.m-1)*X.c/\(X.m-1)*X.c<=15*16:=⟨mo (show 1<=X.m-1 by omega) o.1,mo zO o.2⟩;have iE:(0:Int)<=((X.m:Int)-1)*X.c/\((X.m:Int)-1)*X.c<=240:=by rw[em,<-Int.natCast_mul];omega
   have cS:b/((X.m-1)*X.c)*X.c<=40000*16:=mo (qX (Nat.div_le_self _ _) zO) o.2;have iq:(0:Int)<=((b/((X.m-1)*X.c):Nat):Int)*X.c/\((b/((X.m-1)*X.c):Nat):Int)*X.c<=640000:=by rw[<-Int.natCast_mul];omega
   have cr:=nE b (show 0<(X.m-1)*X.c from P.1);have ct:=nE (b% ((X.m-1)*X.c)) (show 0<X.c from o.1);have ad:b<=40000:=by omega
   rw[bm];refine w ?_;refine VC.quiet rfl (by kernel_rfl) (by kernel_rfl) ?_;refine w ?_;refine VC.re 16 (ii (((X.m-1)*X.c:Nat):Int)) rfl (by congr 1;rw[em,<-Int.natCast_mul]) ?_;refine w ?_;refine VC.quiet rfl (by kernel_rfl) (by kernel_rfl) ?_;refine w ?_;refine VQ.pure rfl rfl (af.quo (a:=b) (b:=(X.m-1)*X.c) rfl rfl P.1 (IntWalk.i64_in _ ⟨Int.le_trans (by decide) (Int.natCast_nonneg _),Int.le_trans (Int.ofNat_le.2 (qX (Nat.div_le_self _ _) ad)) (by decide)⟩)) rfl ?_;refine w ?_;refine VQ.pure rfl rfl (af.rem (a:=b) (b:=(X.m-1)*X.c) rfl rfl P.1) rfl ?_;refine w ?_;refine VQ.pure rfl rfl (af.rem (a:=b% ((X.m-1)*X.c)) (b:=X.c) rfl rfl o.1) rfl ?_;refine w ?_;refine VO.re 17 (ii (((cJ X.m X.c b).row:Nat):Int)) rfl (by congr 1) ?_;obtain⟨A2,H⟩:∃A2,A2=fe (hU (pl++[d]) B) X.nb:=⟨_,rfl⟩;rw[<-H]at S⊢;refine VO.aR (H':=S5 p X pl pl r t c x u pc A.length A2 (C,z) (putCells pl++[ii b,.slice (ik c) 128 128]) (pl.length+1) (pl.map cQ.d) R) ae.re ?_;have bs:∀(bk:List cQ),aV W (S5 p X pl bk r t c x u pc A.length A2 (C,z) (putCells pl++[ii b,.slice (ik c) 128 128]) (pl.length+1) (pl.map cQ.d) R) 1 (ik r) X.nb (cT (oQ pl X.nb)):=λbk=>aV.own (zi _) zm (by simp[cT]) (by simp);have bt:aV W (S5 p X pl pl r t c x u pc A.length A2 (C,z) (putCells pl++[ii b,.slice (ik c) 128 128]) (pl.length+1) (pl.map cQ.d) R) 1 (ik t) (X.s*X.c) (cT (pe X.m X.c pl (X.s*X.c))):=aV.own (zi _) zm (by simp[cT]) (by simp);have bw:(cT (oQ pl X.nb))[b]?=some (.bool (decide (∃q∈pl,q.dV=b))):=by
    unfold cT oQ;rw[oS,law,List.getElem?_range n];rfl
   have bx:(cT (pe X.m X.c pl (X.s*X.c)))[(cJ X.m X.c b).row]?=some (.bool (decide (∃q∈pl,(cJ X.m X.c q.dV).row=(cJ X.m X.c b).row))):=by
    unfold cT pe;rw[oS,law,List.getElem?_range I];rfl
   refine VO.pure rfl rfl (af.rZ ah rfl rfl (bs pl) bw) rfl ?_;refine w ?_;refine VC.join (α:=Unit) (λ_=>True) (λ_=>S5 p X pl pl r t c x u pc A.length A2 (C,z) (putCells pl++[ii b,.slice (ik c) 128 128]) (pl.length+1) (pl.map cQ.d) R) (λ_=>[(0,eE p),(1,.slice (some ba) l.length bc),(7,.slice C (pl.length+1:Nat) z),(8,.slice (some u) A.length pc),(9,.slice (ik r) X.nb X.nb),(10,.slice (ik t) (X.s*X.c:Nat) (X.s*X.c:Nat)),(11,ii ((dF X.m X.c pl+if ∃q∈pl,q.dV=b then 0 else 1:Nat):Int)),(12,ii i),(13,ii b),(14,.slice (ik c) 128 128),(17,ii ((cJ X.m X.c b).row:Nat))]) ?_ ?_
   ·
    intro Q2 jn;by_cases J:∃q∈pl,q.dV=b
    ·
     refine VC.aK rfl rfl (by rw[ky J];rfl) ?_;refine w ?_;refine jn.to () trivial ⟨rfl,rfl,rfl,rfl,rfl,rfl,b7 rfl (by rw[lam J];rfl),rfl,rfl,rfl,rfl,trivial⟩ ae.refl
    ·
     refine VC.cU rfl rfl (by rw[gx J];rfl) ?_;refine w ?_;refine jn.to () trivial ⟨rfl,rfl,rfl,rfl,rfl,rfl,b7 rfl (by rw[aE J];congr 1),rfl,rfl,rfl,rfl,trivial⟩ ae.refl
   intro _ _;refine w ?_;refine VO.pure rfl rfl (af.rZ ah rfl rfl bt bx) rfl ?_;refine w ?_;obtain⟨n1,av⟩:∃n1,n1=dF X.m X.c pl+if ∃q∈pl,q.dV=b then 0 else 1:=⟨_,rfl⟩;have cc:n1<=201:=by
    have:(if ∃q∈pl,q.dV=b then 0 else 1)<=1:=by split<;>decide
    omega
   rw[<-av];refine VC.join (α:=Unit) (λ_=>True) (λ_=>S5 p X pl pl r t c x u pc A.length A2 (C,z) (putCells pl++[ii b,.slice (ik c) 128 128]) (pl.length+1) (pl.map cQ.d) R) (λ_=>[(0,eE p),(1,.slice (some ba) l.length bc),(7,.slice C (pl.length+1:Nat) z),(8,.slice (some u) A.length pc),(9,.slice (ik r) X.nb X.nb),(10,.slice (ik t) (X.s*X.c:Nat) (X.s*X.c:Nat)),(11,ii ((n1+if ∃q∈pl,(cJ X.m X.c q.dV).row=(cJ X.m X.c b).row then 0 else 1:Nat):Int)),(12,ii i),(13,ii b),(14,.slice (ik c) 128 128),(17,ii ((cJ X.m X.c b).row:Nat))]) ?_ ?_
   ·
    intro Q2 jn;by_cases J:∃q∈pl,(cJ X.m X.c q.dV).row=(cJ X.m X.c b).row
    ·
     refine VC.aK rfl rfl (by rw[ky J];rfl) ?_;refine w ?_;refine jn.to () trivial ⟨rfl,rfl,rfl,rfl,rfl,rfl,b7 rfl (by rw[lam J];rfl),rfl,rfl,rfl,rfl,trivial⟩ ae.refl
    ·
     refine VC.cU rfl rfl (by rw[gx J];rfl) ?_;refine w ?_;refine jn.to () trivial ⟨rfl,rfl,rfl,rfl,rfl,rfl,b7 rfl (by rw[aE J];congr 1),rfl,rfl,rfl,rfl,trivial⟩ ae.refl
   intro _ _;refine zw ?_;refine ay.EJ ah rfl rfl rfl rfl zh (by rw[rN,ew,KN];exact n) ?_;refine zw ?_;refine ay.EJ ah rfl rfl rfl rfl zh (by rw[rN,ew,KN];exact I) ?_;refine w ?_;have E:d.dV=b:=by rw[D]
   have s1:(cT (oQ pl X.nb)).set b (.bool true)=cT (oQ (pl++[d]) X.nb):=by
    unfold cT;rw[<-List.map_set,<-E,Jt _ _ _ (by rw[E];exact n)]
   have s2:(cT (pe X.m X.c pl (X.s*X.c))).set (cJ X.m X.c b).row (.bool true)=cT (pe X.m X.c (pl++[d]) (X.s*X.c)):=by
    unfold cT;rw[<-List.map_set,<-E,J7 _ _ _ _ _ (by rw[E];exact I)]
   have s3:n1+(if ∃q∈pl,(cJ X.m X.c q.dV).row=(cJ X.m X.c b).row then 0 else 1)=dF X.m X.c (pl++[d]):=by
    rw[An hm.1 o.1,E,av]
   have s4:putCells pl++[ii b,.slice (ik c) 128 128]=putCells (pl++[d]):=by
    unfold putCells;rw[Ai,List.flatMap_singleton,K]
   rw[s1,s2,s3,s4];refine VE.round (⟨pl++[d],(C,z),(some u,pc)⟩,i+1) ⟨⟨M,U,by dsimp only;rw[c9,ie,bf]⟩,⟨by dsimp only;rw[c9,ie];omega,λq N=>(l0.1 N).elim (v.dV q) λg=>by rw[ju.1 g,E];exact n,λq N=>(l0.1 N).elim (v.n q) λg=>by rw[ju.1 g,D];exact j0⟩⟩ (by dsimp only;omega) ⟨rfl,rfl,b7 rfl (by congr 1;rw[c9];rfl),b7 rfl (by congr 1;rw[<-H,S]),rfl,rfl,rfl,b7 rfl (by congr 1),trivial⟩ ?_;have bd:b8 (ik c,128) (List.replicate 128 x)=aU.res d.d:=by rw[D];rfl
   have Y:Sl.Own 5 1 (.slice (some u) A.length pc) A.length (bytes A2)=b8 (some u,pc) A2:=by unfold b8;rw[S]
   have bh:Sl.Own 68 2 (.slice C (pl.length+1:Nat) z) (pl.length+1) (putCells (pl++[d]))=vT (C,z) (pl++[d]):=by unfold vT;rw[c9];rfl
   refine ae.trans (H':=aU.res d.d::cP (pl.map cQ.d)::b8 (some u,pc) A2::Sl.Own 4 1 (.slice (ik r) X.nb X.nb) X.nb (cT (oQ (pl++[d]) X.nb))::Sl.Own 4 1 (.slice (ik t) (X.s*X.c:Nat) (X.s*X.c:Nat)) (X.s*X.c) (cT (pe X.m X.c (pl++[d]) (X.s*X.c)))::vT (C,z) (pl++[d])::kQ p X R) (by rw[<-bd,<-Y,<-bh];exact ae.re) ?_;show ae W _ (Sl.Own 4 1 (.slice (ik r) X.nb X.nb) X.nb (cT (oQ (pl++[d]) X.nb))::Sl.Own 4 1 (.slice (ik t) (X.s*X.c:Nat) (X.s*X.c:Nat)) (X.s*X.c) (cT (pe X.m X.c (pl++[d]) (X.s*X.c)))::vT (C,z) (pl++[d])::cP ((pl++[d]).map cQ.d)::b8 (some u,pc) (fe (hU (pl++[d]) B) X.nb)::kQ p X R);rw[<-H,jv,List.map_singleton];exact ae.trans (λw G=>du G) ae.re
  ·
   have ch:i=100:=by have:=dx O;omega
   refine w ?_;exact VE.done ⟨pl,po,F⟩ rfl v (by rw[Int.natCast_add,Int.natCast_mul];rfl) (ae.drop (ae.drop ae.refl))
 ·
  refine w ?_;refine w ?_;exact VE.done ⟨pl,po,F⟩ rfl v (by rw[Int.natCast_add,Int.natCast_mul];rfl) (ae.drop (ae.drop ae.refl))
end
end Go.Proofs.YtonpidcjpenflaaGreat
namespace Go.Proofs.YtonpidcjpenflaaGreat
open Go.RowKit Go.Sl
attribute [local irreducible] Sl.Own
structure mf(X:sG)(z:dN)(B:Nat->List UInt8)(n k:Nat)(x:UInt8)(q E C:Nat):Prop where
  rest:Rest z n (fy z.X.m z.X.c B) k x q E C
  m:X.m=z.X.m
  c:X.c=z.X.c
  s:X.s=z.X.s
  ring:X.ring=z.X.ring
  lazy:X.lazy=z.t.Y.lazy
  wb:X.wb=fe B X.nb
  sN:∀b,b<X.nb->(B b).length=128
  ok:X.ok
  there:X.there=true
section
variable{W:World}{R:List ab}{X:sG}{z:dN}{B:Nat->List UInt8}{p n k q E C:Nat}{x:UInt8}
theorem iT.own{H:List ab}{y:Option Addr×Nat}{l:List cQ}(f:y.1=none->l.length=0)(b:∀e∈l.map cQ.d,e.ok)(a:∀p∈l,p.d.data.length=128)(m1:vT y l∈H)(m2:cP (l.map cQ.d)∈H):iT W H y.1 l:=
 ⟨aV.own (M4 l) m1 (M3 l) f,λp c=>aV.cG m2 (fG.2 ⟨p,c,rfl⟩) (λR d=>aU.gz (b _ (fG.2 ⟨p,c,rfl⟩)) d),a⟩
theorem mf.nb(h:mf X z B n k x q E C):X.nb=z.X.s*z.X.c* (z.X.m-1):=by unfold sG.nb;rw[h.m,h.c,h.s]
theorem mf.on(h:mf X z B n k x q E C){b:dN}{e f d c:Nat}{x':UInt8}(g:Rest b n (fy z.X.m z.X.c B) e x' f d c)(a:z.mH b):mf X b B n e x' f d c:=
 ⟨by rw[a.m,a.c];exact g,h.m.trans a.m.symm,h.c.trans a.c.symm,h.s.trans a.s.symm,h.ring.trans a.ring.symm,h.lazy.trans a.lazy.symm,h.wb,h.sN,h.ok,h.there⟩
theorem Kx{O:Option Addr}{bc:Nat}{l:List sJ}(h:mf X z B n k 1 0 E C)(Z:C<=900000)(hl:A7 W O l):
    aq W Tryz.prog 7 [eE p,.slice O l.length bc] (kQ p X (kH X.r z R)) (β:=sG×dN×(Nat->List UInt8)) (λy=>(mf y.1 y.2.1 y.2.2 n k 1 0 E (C+4000)/\z.mH y.2.1)/\y.1.r=X.r) (λ_=>.bool true) (λy=>kQ p y.1 (kH X.r y.2.1 R)):=by
  have hr:=h.rest;have hm:=h.ok.m;refine aq.enter Tryz.func7 Tryz.ntmps7 rfl rfl ?_;refine zt (s:=NV (bc:=bc) h.ok h.sN h.wb hl) (h:=?_);rintro⟨pl,o,ao⟩ d;dsimp only at d⊢;refine w ?_;refine VO.bH (p:=o.1=none->pl.length=0) (λw N=>N.bn (.head _)) ?_;intro K;refine VO.bH (p:=∀e∈pl.map cQ.d,e.ok) (λw N=>cP.bH N.tail) ?_;intro M;have J:=BJ hm.1 h.ok.c.1 pl;have v:pl.length<=100:=d.len;refine VO.re 27 (.slice o.1 pl.length o.2) rfl rfl ?_;obtain⟨A,F⟩:∃A:mz,A=⟨2,0,0,0,o.1,pl.length,o.2,none,0,0⟩:=⟨_,rfl⟩;refine VO.pure rfl rfl (af.build mM rfl (show aC _ _ _=some A.cells by rw[F];simp[aC,bR,Value.cells])) rfl ?_;have u:=Qu (W:=W) (R:=b8 ao (fe (hU pl B) X.nb)::kQ p X R) (r:=X.r) (L:=[vT o pl,cP (pl.map cQ.d)]) (A:=A) (l:=pl) hr (by have:pl.length<=100:=v;omega) (λR=>by rw[F];exact iT.own K M d.n (.head _) (.tail _ (.head _))) (by rw[F]) (λq hq=>by rw[<-h.nb];exact d.dV q hq) (by rw[<-h.nb];exact h.sN) Z (by rw[F]);rw[<-h.m,<-h.c,<-h.ring]at u;refine zr (s:=u) (h:=?_);intro j c;refine zw ?_;refine ay.aB eG rfl ?_;intro n9;refine zw ?_;refine ay.gL (vs:=cn ((if X.ring<2*dF X.m X.c pl+1 then 122 else 0:Nat):Int) dh (eU z.t.D j.t.D)) ah rfl rfl rfl rfl (cL rfl) zh (by simp) ?_;have ad:X.nb=j.X.s*j.X.c* (j.X.m-1):=by rw[h.nb,c.1.2.m,c.1.2.c,c.1.2.s]
  have a:∀(i:sG)(t:Nat->List UInt8),i.m=X.m->i.c=X.c->i.s=X.s->i.ring=X.ring->i.lazy=X.lazy->i.there=true->i.wb=fe t X.nb->(∀b,b<X.nb->(t b).length=128)->(if X.ring<2*dF X.m X.c pl+1 then B else hU pl B)=t->mf i j t n k 1 0 E (C+4000):=λi t G H I P S T U V Y=>by
    have f:i.nb=X.nb:=by unfold sG.nb;rw[G,H,I]
    have g:=c.1.1;rw[Y,h.m,h.c,<-c.1.2.m,<-c.1.2.c]at g;exact⟨g,by rw[G,h.m,c.1.2.m],by rw[H,h.c,c.1.2.c],by rw[I,h.s,c.1.2.s],by rw[P,h.ring,c.1.2.ring],by rw[S,h.lazy,c.1.2.lazy],by rw[f];exact U,by rw[f];exact V,⟨by rw[G];exact h.ok.m,by rw[H];exact h.ok.c,by rw[I];exact h.ok.s,by rw[f];exact h.ok.nb,by rw[P];exact h.ok.ring⟩,T⟩
  by_cases m:X.ring<2*dF X.m X.c pl+1
  · rw[lam m]at a⊢
    refine w ?_
    exact VE.done ({X with last:=122},j,B) rfl ⟨⟨a _ _ rfl rfl rfl rfl rfl h.there h.wb h.sN rfl,c.1.2⟩,rfl⟩ (by rw[gx zO];rfl) ae.re
  · rw[aE m]at a⊢
    refine w ?_
    refine VC.aK rfl rfl (by rw[ky zO];rfl) ?_
    refine w ?_
    by_cases D:pl=[]
    · subst D
      refine VC.aK rfl rfl (rfl) ?_
      refine w ?_
      exact VE.done ({X with last:=0},j,B) rfl ⟨⟨a _ _ rfl rfl rfl rfl rfl h.there h.wb h.sN rfl,c.1.2⟩,rfl⟩ rfl ae.re
    · have Q:=KO.2 D
      refine VC.cU rfl rfl (ky zO) ?_
      refine w ?_
      cases aa:X.lazy with
      |false=>
        refine VC.aK rfl rfl (rfl) ?_
        refine w ?_
        exact VE.done ({X with last:=0,bf:=(none,0,0),w:=ao,wb:=fe (hU pl B) X.nb},j,hU pl B) rfl ⟨⟨a _ _ rfl rfl rfl rfl rfl h.there rfl (o5 d.n h.sN) rfl,c.1.2⟩,rfl⟩ rfl ae.re
      |true=>
        refine VC.cU rfl rfl (rfl) ?_
        refine w ?_
        exact VE.done ({X with last:=0,bf:=(X.w.1,X.wb.length,X.w.2),w:=ao,wb:=fe (hU pl B) X.nb},j,hU pl B) rfl ⟨⟨a _ _ rfl rfl rfl rfl rfl h.there rfl (o5 d.n h.sN) rfl,c.1.2⟩,rfl⟩ rfl ae.re
theorem tY(ao:Option Addr)(cap sz:Nat):jO ao cap 0 sz=ao:=by
 unfold jO;cases ao<;>simp[Addr.add]
theorem NW(h:mf X z B n k x q E C):aq W Tryz.prog 11 [eE p,ii 0,ii X.nb] (kQ p X (kH X.r z R)) (β:=dN) (λc=>(mf X c B n k x q E C/\z.mH c)/\(z.calm->c.calm)) (λ_=>.tuple #[.bool true,i6 0]) (λc=>kQ p X (kH X.r c R)):=by
 have t:=h.rest;have m:=h.ok.m;have o:=h.ok.nb;refine ze Tryz.func11 Tryz.ntmps11 ?_;obtain⟨A,g⟩:∃A:mz,A=⟨1,0,X.nb,0,none,0,0,none,0,0⟩:=⟨_,rfl⟩;refine VO.pure rfl rfl (af.build mM rfl (show aC _ _ _=some A.cells by rw[g];simp[aC,bR,Value.cells])) rfl ?_;have d:=LY (W:=W) (R:=kQ p X R) (r:=X.r) (A:=A) t 0 X.nb (by rw[h.nb];omega) (by rw[g]) (by rw[g];rfl) (by rw[g]);rw[C5 (by rw[<-h.m];exact m.1) (by rw[<-h.c];exact h.ok.c.1)]at d;refine zr (s:=d) (h:=?_);rintro⟨c,y⟩ f;dsimp only at f⊢;have u:X.wb.length=X.nb*128:=by rw[h.wb,lk h.sN]
 refine VO.bH (p:=X.w.1=none->X.wb.length=0) (λw e=>e.bn (.tail _ (.tail _ (.tail _ (.tail _ (.tail _ (.head _))))))) ?_;intro j;refine VO.bH (p:=X.wb.length<=X.w.2) (λw e=>e.jd (.tail _ (.tail _ (.tail _ (.tail _ (.tail _ (.head _))))))) ?_;intro i;refine VO.bH (p:=y.1=none->(fe B X.nb).length=0) (λw e=>e.bn (.head _)) ?_;intro l;refine zw ?_;refine ay.aB eG rfl ?_;intro n8;refine zl (cn 0 (sliceB y (fe B X.nb)) (eU z.t.D c.t.D)) (cL rfl) ?_;refine VC.quiet rfl (by kernel_rfl) (by kernel_rfl) ?_;refine w ?_;refine VQ.re 40 (ii ((0:Nat):Int)) rfl rfl ?_;refine VQ.re 44 (ii ((X.wb.length:Nat):Int)) rfl (by congr 1;omega) ?_;refine VQ.pure rfl rfl (af.sw ah rfl rfl rfl rfl (c7 _) i) rfl ?_;refine VQ.re 45 (.slice X.w.1 X.wb.length X.w.2) rfl (by rw[tY];rfl) ?_;refine VQ.re 34 (sliceB y (fe B X.nb)) rfl rfl ?_;refine VQ.call rfl rfl rfl rfl (λ_ _=>by simp) (xV (a:=fe B X.nb) (b:=X.wb) (aV.own (aQ _) (.tail _ (.head _)) (by simp) l) (aV.own (aQ _) zm (by simp) j) (by rw[lk h.sN];simp only[maxLen];omega)) ae.refl ae.refl rfl ?_;refine w ?_;exact VE.done c rfl ⟨⟨h.on f.1.1 f.1.2,f.1.2⟩,f.2.1⟩ (by rw[ky h.wb.symm]) ae.re
end
end Go.Proofs.YtonpidcjpenflaaGreat
namespace Go.Proofs.YtonpidcjpenflaaGreat
open Go.RowKit Go.Sl
attribute [local irreducible] Sl.Own
def Cz(r:Nat)(z:dN):ab:=Sl.star [Row r 81 (kW z).cells,al z.t.Y.b z.t.D,z.O]
section
variable{W:World}{R:List ab}{X:sG}{z:dN}{B:Nat->List UInt8}{p n k q E C:Nat}{x:UInt8}
theorem Rg{β:Type}{g:FuncId}{args:List Value}{A:β->Prop}{rv:β->Value}{f:β->dN}{r:Nat}{T:β->List ab}(h:∀R,aq W Tryz.prog g args (kH r z R) A rv (λy=>T y++kH r (f y) R)):∀R,aq W Tryz.prog g args (Cz r z::R) A rv (λy=>(T y++[Cz r (f y)])++R):=λR=>
 fX (λw a=>a.join) (aq.mono (h R) (λy=>y) (λ_ h=>h) (λ_ _=>rfl) (λy _ w a=>by
  have b:Holds W (Row r 81 (kW (f y)).cells::al (f y).t.Y.b (f y).t.D::(f y).O::(R++T y)) w:=a.perm (List.perm_append_comm (l₁:=T y) (l₂:=kH r (f y) R));have c:Holds W (Cz r (f y)::(R++T y)) w:=b.nest (L:=[Row r 81 (kW (f y)).cells,al (f y).t.Y.b (f y).t.D,(f y).O]);refine c.perm ?_;rw[lx];exact(List.perm_append_comm (l₁:=Cz r (f y)::R) (l₂:=T y))))
theorem ER(h:mf X z B n k x q E C):aq W Tryz.prog 22 [eE p,i6 0] (kQ p X (kH X.r z R)) (β:=sG×dN) (λy=>(mf y.1 y.2 B n k x q E C/\z.mH y.2)/\y.1.r=X.r/\(z.calm->y.2.calm)) (λ_=>.bool true) (λy=>kQ p y.1 (kH X.r y.2 R)):=by
 have J:=h.rest;have H:=h.ok.m;have I:=h.ok.nb;have L:X.wb.length=X.nb*128:=by rw[h.wb,lk h.sN]
 obtain⟨A,s⟩:∃A:mz,A=⟨1,0,X.nb,0,none,0,0,none,0,0⟩:=⟨_,rfl⟩;have v:∀R,aq W Tryz.prog 8 [eE X.r,.agg A.cells.toArray] (kH X.r z R) (β:=dN×Option Addr×Nat) (λy=>(Rest y.1 n (fy z.X.m z.X.c B) k x q E C/\z.mH y.1)/\(z.calm->y.1.calm)/\y.1.a=z.a) (λy=>.agg (cn 0 (sliceB y.2 (fe B X.nb)) (eU z.t.D y.1.t.D)).toArray) (λy=>[b8 y.2 (fe B X.nb)]++kH X.r y.1 R):=λR=>by
  have:=LY (W:=W) (R:=R) (r:=X.r) (A:=A) J 0 X.nb (by rw[h.nb];omega) (by rw[s]) (by rw[s];rfl) (by rw[s]);rw[C5 (by rw[<-h.m];exact H.1) (by rw[<-h.c];exact h.ok.c.1)]at this;exact this
 refine ze Tryz.func22 Tryz.ntmps22 ?_;obtain⟨c,e⟩:∃c:sG,c={X with there:=true}:=⟨_,rfl⟩;refine VC.aR (H':=Cz X.r z::kQ p c R) (λw j=>(by rw[e];exact ae.re:ae W _ ([Row X.r 81 (kW z).cells,al z.t.Y.b z.t.D,z.O]++kQ p c R)) w j |>.nest) ?_;have t:c.r=X.r:=by rw[e]
 have m:c.nb=X.nb:=by rw[e]
 refine VC.qO [9,10] 11 10 [0,1,2,3,4,5,6,7,8,9,10,11] (kQ p c R) 5 (λb=>Row b 44 (cn 0 dh 0)) (λb=>eE b) rfl (by kernel_rfl) (by kernel_rfl) ae.re ?_;(repeat (apply VX.take rfl rfl rfl rfl;exact zp;rfl;rfl;rfl));rw[m,t];apply VX.take rfl rfl rfl rfl
 · exact af.build mM rfl (show aC _ _ _=some A.cells by rw[s];simp[aC,bR,Value.cells])
 · rfl
 · rfl
 · rfl
 refine VX.uk (K:=Cz X.r z) (S:=λy:dN×Option Addr×Nat=>[b8 y.2 (fe B X.nb)]++[Cz X.r y.1]) (H':=kQ p c R) rfl rfl rfl rfl rfl rfl (λ_ _=>by simp) (Rg v) (by(repeat exact .refl)) rfl (dG.alloc eG rfl) ae.re (λ_ _=>ae.re) rfl rfl rfl ?_;rintro⟨d,y⟩ o;dsimp only at o⊢;refine VX.float rfl rfl (dG.alloc eG rfl) ae.re ?_;intro n5;refine zl (cn 0 (sliceB y (fe B X.nb)) (eU z.t.D d.t.D)) (cL rfl) ?_;have u:c.wb=X.wb:=by rw[e]
 refine VC.aR (H':=Row n5 44 (cn 0 (sliceB y (fe B X.nb)) (eU z.t.D d.t.D))::b8 y (fe B X.nb)::Cz X.r d::kQ p c R) ae.re ?_;refine VC.bH (p:=c.w.1=none->c.wb.length=0) (λw j=>j.bn (.tail _ (.tail _ (.tail _ (.tail _ (.head _)))))) ?_;intro D;refine VC.bH (p:=y.1=none->(fe B X.nb).length=0) (λw j=>j.bn (.tail _ (.head _))) ?_;intro F;refine VC.quiet rfl (by kernel_rfl) (by kernel_rfl) ?_;refine w ?_;refine VQ.re 46 (sliceB y (fe B X.nb)) rfl rfl ?_;refine VQ.call rfl rfl rfl rfl (λ_ _=>by simp) (xV (a:=fe B X.nb) (b:=c.wb) (aV.own (aQ _) (.tail _ (.head _)) (by simp) F) (aV.own (aQ _) zm (by simp) D) (by rw[lk h.sN];simp only[maxLen];omega)) ae.refl ae.refl rfl ?_;rw[u,ky h.wb.symm];refine w ?_;refine VC.join (α:=Unit) (λ_=>True) (λ_=>Row n5 44 (cn 0 (sliceB y (fe B X.nb)) (eU z.t.D d.t.D))::b8 y (fe B X.nb)::Cz X.r d::kQ p c R) (λ_=>[(0,eE p),(5,eE n5),(6,.bool true)]) ?_ ?_
 ·
  intro M G;by_cases i:c.bf.1.isNone=true
  ·
   refine VC.aK rfl rfl (by rw[i];rfl) ?_;refine w ?_;exact G.to () trivial ⟨rfl,rfl,rfl,trivial⟩ ae.refl
  ·
   refine VC.cU rfl rfl (by rw[Bool.not_eq_true]at i;rw[i];rfl) ?_;refine w ?_;refine VC.quiet rfl (by kernel_rfl) (by kernel_rfl) ?_;refine w ?_;exact G.to () trivial ⟨rfl,rfl,rfl,trivial⟩ ae.refl
 intro _ _;refine w ?_;refine VC.once rfl ?_;refine w ?_;obtain⟨l,f⟩:∃l:sG,l={X with there:=true,w:=y,wb:=fe B X.nb,bf:=(none,0,0)}:=⟨_,rfl⟩;have g:=h.on o.1.1 o.1.2;refine VE.done (l,d) rfl ⟨⟨by rw[f];exact⟨g.rest,g.m,g.c,g.s,g.ring,g.lazy,rfl,g.sN,⟨g.ok.m,g.ok.c,g.ok.s,g.ok.nb,g.ok.ring⟩,rfl⟩,o.1.2⟩,by rw[f],o.2.1⟩ rfl (ae.trans (H':=Cz X.r d::kQ p l R) (by rw[e,f];exact ae.re) (λw j=>(ae.re:ae W ([Row X.r 81 (kW d).cells,al d.t.Y.b d.t.D,d.O]++kQ p l R) (kQ p l (kH X.r d R))) w j.join))
theorem NT{kl:List fI}{o:oC}(h:mf X z B n k x q E C)(F:x≠2)(j:z.t.v.sure=true)(t:E<4611686018427387904)(r:C<=900000)(v:o.n=0)(u:∀R,oy W R o.y.1 o.ks):aq W Tryz.prog 9 [eE p,.agg o.cells.toArray] (kQ p X (kH X.r z R)) (β:=sG×dN) (λy=>(mf y.1 y.2 B n k x q (E+1) (C+3000)/\z.mH y.2)/\y.1.r=X.r/\y.2.calm) (λ_=>.bool true) (λy=>kQ p y.1 (kH X.r y.2 R)):=by
 have D:=h.rest;obtain⟨A,e⟩:∃A:mz,A=⟨9,0,0,0,none,0,0,o.y.1,o.ks.length,o.y.2⟩:=⟨_,rfl⟩
 have i:∀R,aq W Tryz.prog 8 [eE X.r,.agg A.cells.toArray] (kH X.r z R) (β:=dN) (λc=>(Rest c n (fy z.X.m z.X.c B) k x q (E+1) (C+3000)/\z.mH c)/\c.calm) (λc=>.agg (cn 0 dh (eU z.t.D c.t.D)).toArray) (λc=>[]++kH X.r c R):=λR=>
  LX (A:=A) D F j t r (by rw[e]) (by rw[e];exact u) (by rw[e]) (by rw[e];exact Int.le_refl 0)
 refine ze Tryz.func9 Tryz.ntmps9 ?_;refine zj λ_=>?_;refine w ?_;rename_i f;refine VC.re 5 (ii 0) rfl (by rw[v];rfl) ?_;refine VC.once rfl ?_;refine w ?_;refine VO.pure rfl rfl (af.rem (a:=0) (b:=4) rfl rfl (by decide)) rfl ?_;refine w ?_;refine VC.aR (H':=Cz X.r z::Row f 34 o.cells::kQ p X R) (λw l=>(ae.re:ae W _ ([Row X.r 81 (kW z).cells,al z.t.Y.b z.t.D,z.O]++(Row f 34 o.cells::kQ p X R))) w l |>.nest) ?_;refine VC.qO [5,7,8] 9 8 [0,1,2,3,4,5,6,7,8,9] (Row f 34 o.cells::kQ p X R) 9 (λb=>Row b 44 (cn 0 dh 0)) (λb=>eE b) rfl (by kernel_rfl) (by kernel_rfl) ae.re ?_;(repeat (apply VX.take rfl rfl rfl rfl;exact zp;rfl;rfl;rfl));refine VX.call rfl rfl rfl rfl rfl rfl (λ_ _=>by simp) (λL G=>Ku o) rfl (dG.alloc eG rfl) ae.re rfl rfl rfl ?_;apply VX.take rfl rfl rfl rfl
 · exact af.build mM rfl (show aC _ _ _=some A.cells by rw[e];simp[aC,bR,Value.cells])
 · rfl
 · rfl
 · rfl
 refine VX.uk (K:=Cz X.r z) (S:=λc:dN=>[]++[Cz X.r c]) (H':=Row f 34 o.cells::kQ p X R) rfl rfl rfl rfl rfl rfl (λ_ _=>by simp) (Rg i) (by(repeat exact .refl)) rfl (dG.alloc eG rfl) ae.re (λ_ _=>ae.re) rfl rfl rfl ?_;intro c g;refine VX.float rfl rfl (dG.alloc eG rfl) ae.re ?_;intro n9;refine zl (cn 0 dh (eU z.t.D c.t.D)) (cL rfl) ?_;refine VO.aR (H':=Row n9 44 (cn 0 dh (eU z.t.D c.t.D))::kQ p X (kH X.r c R)) (ae.trans (H':=Cz X.r c::Row n9 44 (cn 0 dh (eU z.t.D c.t.D))::kQ p X R) ae.re (λw l=>(ae.re:ae W ([Row X.r 81 (kW c).cells,al c.t.Y.b c.t.D,c.O]++(Row n9 44 (cn 0 dh (eU z.t.D c.t.D))::kQ p X R)) (Row n9 44 (cn 0 dh (eU z.t.D c.t.D))::kQ p X (kH X.r c R))) w l.join)) ?_;refine zr (s:=ER (h.on g.1.1 g.1.2)) (h:=?_);rintro⟨m,z2⟩ d;dsimp only at d⊢;refine w ?_;refine VO.re 60 (.bool true) rfl (by rw[d.1.1.there]) ?_;refine w ?_;exact VE.done (m,z2) rfl ⟨⟨d.1.1,g.1.2.trans d.1.2⟩,d.2.1,d.2.2 g.2⟩ rfl ae.re
end
end Go.Proofs.YtonpidcjpenflaaGreat
namespace Go.Proofs.YtonpidcjpenflaaGreat
open Go.RowKit Go.Sl
attribute [local irreducible] Sl.Own
section
variable{W:World}{R:List ab}
def xx(b m c s ring:Nat)(lazy:Bool)(z:CI):dN:=⟨z.a,z.r,z.w,z.X b m c s ring lazy,z.t,(none,0),[]⟩
theorem MK{b m c s ring:Nat}{lazy:Bool}{z:CI}(k:3<=m/\m<=16)(j:1<=c/\c<=16)(o:1<=s/\s<=256)(n:5<=ring/\ring<=2048)(h:KY b m c s ring 0 lazy z):Rest (xx b m c s ring lazy z) (m+1) (fy m c λ_=>dC) 0 1 0 1 70000/\(xx b m c s ring lazy z).calm:=by
 have a:z.t.Y.b=b/\z.t.Y.m=m/\z.t.Y.c=c/\z.t.Y.s=s/\z.t.Y.lazy=lazy:=⟨(lcs eA.b h.Y:),(lcs eA.m h.Y:),(lcs eA.c h.Y:),(lcs eA.s h.Y:),(lcs eA.lazy h.Y:)⟩;have f:bU (z.X b m c s ring lazy)=List.replicate m (-1):=by
  show(List.replicate m (1:UInt8)).map (nC _)=_;rw[List.map_replicate];rfl
 rw[KB];have d:(List.replicate m (1:UInt8)).length=m:=j0;refine⟨⟨⟨⟨k,j,o,d,λx p=>.inl (HE p),c7 _⟩,rfl,rfl,rfl,a.1.symm,⟨a.2.1,a.2.2.1,a.2.2.2.1⟩,h.size.symm,?_,.inl ⟨(h.ok.nil h.wl).1,h.wl⟩,a.2.2.2.2.symm⟩,rfl,n,by show(1:Nat)<_;decide,⟨eI _,eI _⟩,⟨eI _,eI _⟩,?_,by have:=h.mx;show z.t.c<=_;omega,rfl,⟨by show 0<m;omega,?_,rfl,.inl ⟨rfl,rfl⟩⟩,λi g _=>?_,⟨1,⟨eI _,eI _⟩,λi g _=>h.sr i g⟩⟩,h.wl,h.cy,h.sure⟩
 ·
  show z.t.ok (m+1) z.w (bU (z.X b m c s ring lazy)) _;rw[f];exact h.ok
 ·
  show(List.replicate m (1:UInt8)).length<=z.sc;rw[d];exact h.cap
 ·
  show List.replicate m (1:UInt8)=(List.replicate m 1).set 0 1;refine BF (by simp) λi q r=>?_;rw[List.getElem_set,List.getElem_replicate,ite_self]
 ·
  obtain⟨kd,e,l⟩:=h.len i g;exact⟨kd,e,by rw[l];exact eI _⟩
theorem Ng{m c s ring:Nat}{lazy:Bool}(f:3<=m/\m<=16)(b:1<=c/\c<=16)(g:1<=s/\s<=256)(i:5<=ring/\ring<=2048):
  aq W Tryz.prog 14 [.agg (cv m c s).toArray,ii ring,.bool lazy] R (β:=Nat×dN) (λy=>(Rest y.2 (m+1) (fy m c λ_=>dC) 0 1 0 1 70000/\y.2.calm)/\y.2.X.m=m/\y.2.X.c=c/\y.2.X.s=s/\y.2.X.ring=ring/\y.2.t.Y.lazy=lazy) (λy=>.tuple #[eE y.1,i6 0]) (λy=>kH y.1 y.2 R):=by
 have k:s*c<=256*16:=mo g.2 b.2;refine aq.mono (Ni (W:=W) (R:=R) (PJ lazy f b g i) (RN (m:=m) (n:=1+s*c) (z:=2+ring) zO zO) (NO f.2 zO zO)) (λy=>(y.r,xx y.b m c s ring lazy y.z)) (λy a=>⟨MK f b g i a,rfl,rfl,rfl,rfl,(lcs eA.lazy a.Y:)⟩) (λ_ _=>rfl) (λy a=>?_);have j:y.z.t.Y.b=y.b:=(lcs eA.b a.Y:);have e:bU (xx y.b m c s ring lazy y.z).X=List.replicate m (-1):=by
  show(List.replicate m (1:UInt8)).map (nC _)=_;rw[List.map_replicate];rfl
 show ae W _ (Row y.r 81 (kW (xx y.b m c s ring lazy y.z)).cells::al y.z.t.Y.b y.z.t.D::Sl.star (xx y.b m c s ring lazy y.z).L::R);have d:(y.X m c s).cells=(kW (xx y.b m c s ring lazy y.z)).cells:=by
  show qJ.cells ⟨y.b,ik y.z.a,s*c,m,c,s⟩=qJ.cells ⟨y.z.t.Y.b,ik y.z.a,s*c,m,c,s⟩;rw[j]
 rw[d];refine ae.trans (λw h=>Holds.aZ 208 3 (di (res:=aj.res) h)) ?_;refine ae.trans (H':=(xx y.b m c s ring lazy y.z).L++(Row y.r 81 (kW (xx y.b m c s ring lazy y.z)).cells::al y.z.t.Y.b y.z.t.D::R)) ?_ (λw h=>(ae.re:ae W (Sl.star (xx y.b m c s ring lazy y.z).L::(Row y.r 81 (kW (xx y.b m c s ring lazy y.z)).cells::al y.z.t.Y.b y.z.t.D::R)) _) w h.nest);rw[<-e];exact ae.re
theorem Iq(n:Nat):fe (λ_=>dC) n=List.replicate (n*128) 0:=by
 unfold fe;induction n with
 |zero=>rfl
 |succ n a=>rw[KR,Ai,a,Nat.succ_mul,List.flatMap_singleton,<-List.replicate_append_replicate]
theorem IJ{p:dy}(h:p.wf W)(x:S0 p):aq W Tryz.prog 5 [.agg p.cells.toArray] R (β:=Nat×sG×dN) (λy=>mf y.2.1 y.2.2 (λ_=>dC) (p.gm+1) 0 1 0 1 70000/\y.2.2.calm/\y.2.1.m=p.gm/\y.2.1.s=p.gs) (λy=>eE y.1) (λy=>kQ y.1 y.2.1 (kH y.2.1.r y.2.2 R)):=by
 have l:3<=p.gm/\p.gm<=16:=by unfold dy.gm;omega
 have g:1<=p.gc/\p.gc<=16:=by unfold dy.gc;omega
 have i:1<=p.gs/\p.gs<=256:=by have:=h.c;unfold dy.gs;omega
 have m:5<=p.gr/\p.gr<=2048:=by unfold dy.gr;omega
 have v:p.gs*p.gc<=256*16:=mo i.2 g.2;have t:p.gs*p.gc* (p.gm-1)<=32768:=by
  have a:=x.sz;have b:(p.gm*p.gc*p.gs+p.gr)*4<=(p.gm*p.gc*p.gs+p.gr)* (min p.l.length 1000+4):=Nat.mul_le_mul_left _ zO;have c:p.gs*p.gc* (p.gm-1)<=p.gm*p.gc*p.gs:=by
   rw[BG p.gs p.gc,BG (p.gc*p.gs),<-Nat.mul_assoc];exact w9 _ (w9 _ (Nat.sub_le _ _))
  omega
 have em:(p.gm:Int)-1=((p.gm-1:Nat):Int):=by omega
 have i1:(0:Int)<=(p.gs:Int)*p.gc/\(p.gs:Int)*p.gc<=4096:=by rw[<-Int.natCast_mul];exact⟨Int.natCast_nonneg _,Int.ofNat_le.2 v⟩
 have i2:(0:Int)<=(p.gs:Int)*p.gc* ((p.gm:Int)-1)/\(p.gs:Int)*p.gc* ((p.gm:Int)-1)<=32768:=by rw[em,<-Int.natCast_mul,<-Int.natCast_mul];exact⟨Int.natCast_nonneg _,Int.ofNat_le.2 t⟩
 refine ze Tryz.func5 Tryz.ntmps5 ?_;refine zj λ_=>?_;refine w ?_;rename_i q;refine zt (s:=HU h) (h:=?_);intro _ _;refine zw ?_;refine ay.aB AB rfl ?_;intro u;refine zS (cv p.gm p.gc p.gs) ?_;refine VC.aR (H':=Row u 36 (cv p.gm p.gc p.gs)::Row q 25 p.cells::R) ae.re ?_;refine zx [2,5] 10 [0,1,3,4,2,5,6,7,8,9,10] (Row u 36 (cv p.gm p.gc p.gs)::Row q 25 p.cells::R) ?_;refine zt (s:=sj h) (h:=?_);intro _ _;refine⟨ae.re,?_⟩;refine zt (s:=Ng l g i m) (h:=?_);rintro⟨r,z⟩ o;refine⟨ae.re,?_⟩;refine w ?_;obtain⟨N,j⟩:∃N,N=p.gs*p.gc* (p.gm-1):=⟨_,rfl⟩;rw[<-j]at t;refine VC.re 6 (ii N) rfl (by rw[j,em,Int.natCast_mul,Int.natCast_mul]) ?_;obtain⟨P,e⟩:∃P:Nat->sG,P=λnb=>⟨p.gm,p.gc,p.gs,p.gr,p.lazy,r,(ik nb,N*128),List.replicate (N*128) 0,(none,0,0),true,0⟩:=⟨_,rfl⟩;have k:∀nb,(P nb).cells=[ii p.gm,ii p.gc,ii p.gs,ii p.gr,.bool p.lazy,eE r,.slice (ik nb) (N*128:Nat) (N*128:Nat),.slice none 0 0,.slice none 0 0,ii N,ii (-1),.bool false,.bool true,i6 0,.bool false]:=λnb=>by
  rw[e];simp only[sG.cells,sG.nb,j0];rw[<-j];rfl
 have d:∀nb,mf (P nb) z (λ_=>dC) (p.gm+1) 0 1 0 1 70000:=λnb=>by
  obtain⟨⟨g1,g2⟩,g3,g4,g5,g6,g7⟩:=o;dsimp only at g1 g3 g4 g5 g6 g7;rw[e];exact⟨by rw[g3,g4];exact g1,g3.symm,g4.symm,g5.symm,g6.symm,g7.symm,by show List.replicate (N*128) 0=fe _ (p.gs*p.gc* (p.gm-1));rw[Iq,j],λ_ _=>rfl,⟨l,g,i,by show p.gs*p.gc* (p.gm-1)<=40000;rw[<-j];omega,m.2⟩,rfl⟩
 have f:∀nb,Sl.Own 5 1 (.slice (ik nb) (N*128:Nat) (N*128:Nat)) (N*128) (List.replicate (N*128) (ib 0))=b8 (P nb).w (P nb).wb:=λnb=>by
  rw[e];show _=Sl.Own 5 1 (.slice (ik nb) (List.replicate (N*128) (0:UInt8)).length (N*128)) (List.replicate (N*128) (0:UInt8)).length (bytes (List.replicate (N*128) 0));rw[j0,dD]
 refine VC.vw [2,8] 10 [0,1,3,4,5,6,7,9] [[2,8,10,11,12],[8,2,10,11,12]] _ rfl (by kernel_rfl) (by kernel_rfl) ae.refl ?_;refine w ?_;refine VE.vf ?_ ?_
 ·
  refine zt (s:=sj h) (h:=?_);intro _ _;refine⟨ae.re,?_⟩;refine VD.re 40 (ii ((N*128:Nat):Int)) rfl (by congr 1) ?_;refine zq ?_;refine ay.dd eH rfl rfl rfl ?_ ?_ rfl ?_
  · omega
  · simp only[maxLen];omega
  intro nb;refine w ?_;refine VD.end rfl rfl rfl (ay.pure (af.build QL rfl (show aC _ _ _=some (P nb).cells by rw[k];simp[aC,bR,Value.cells])) rfl ?_);refine w ?_;refine zj λ_=>?_;refine w ?_;rename_i n;rw[f];exact VE.done (n,P nb,z) rfl ⟨d nb,o.1.2,by rw[e],by rw[e]⟩ rfl (by rw[e];exact ae.re)
 ·
  refine VD.re 40 (ii ((N*128:Nat):Int)) rfl (by congr 1) ?_;refine zq ?_;refine ay.dd eH rfl rfl rfl ?_ ?_ rfl ?_
  · omega
  · simp only[maxLen];omega
  intro nb;refine⟨ae.re,?_⟩;refine zt (s:=sj h) (h:=?_);intro _ _;refine⟨ae.re,?_⟩;refine VD.end rfl rfl rfl (ay.pure (af.build QL rfl (show aC _ _ _=some (P nb).cells by rw[k];simp[aC,bR,Value.cells])) rfl ?_);refine w ?_;refine zj λ_=>?_;refine w ?_;rename_i n;rw[f];exact VE.done (n,P nb,z) rfl ⟨d nb,o.1.2,by rw[e],by rw[e]⟩ rfl (by rw[e];exact ae.re)
end
end Go.Proofs.YtonpidcjpenflaaGreat
namespace Go.Proofs.YtonpidcjpenflaaGreat
open Go.RowKit Go.Sl
attribute [local irreducible] Sl.Own
section
variable{W:World}{R:List ab}
theorem RP(W:World)(R:List ab):oy W R none []:=⟨⟨rfl,λu c=>(by cases c),λ_=>rfl,λw e a b=>(by cases b)⟩,λx d=>(by cases d)⟩
theorem Rest.up{z:dN}{n k E C:Nat}{V:Nat->Nat->List UInt8}(h:Rest z n V k 1 0 E C){j:Nat}(a:j<z.X.m):Rest z n V j 1 0 E C:=
 ⟨h.ok,h.n,h.ring,h.id,h.ev,h.sf,h.cap,h.c,h.lost,h.sh.up a,h.len,h.SS⟩
theorem Ll:aq W Tryz.prog 6 [] R (β:=Unit) (λ_=>True) (λ_=>.bool true) (λ_=>R):=by
 refine ze Tryz.func6 Tryz.ntmps6 ?_;refine VO.pure rfl rfl (af.build AB rfl (show aC _ _ _=some (cv 3 1 2)by simp[aC,bR,Value.cells])) rfl ?_;refine zt (s:=Ng (m:=3) (c:=1) (s:=2) (ring:=10) (lazy:=false) (by decide) (by decide) (by decide) (by decide)) (h:=?_);rintro⟨r,z⟩ ⟨⟨J,P⟩,n,u,M,X,Y⟩;dsimp only at J P n u M X Y⊢;refine zr (s:=ru (f:=7) (by decide)) (h:=?_);intro v _;refine w ?_;obtain⟨D,O⟩:∃D,D=List.replicate 128 (UInt8.ofNat 7):=⟨_,rfl⟩;rw[<-O];have i:D.length=128:=by rw[O];exact j0
 obtain⟨t,b⟩:∃t:cQ,t=⟨1,⟨ik v,128,D⟩⟩:=⟨_,rfl⟩;refine VO.pure rfl rfl (af.build Nr rfl (show aC _ _ _=some [ii 1,.slice (ik v) 128 128]by simp[aC,bR,Value.cells])) rfl ?_;refine zq ?_;refine ay.buildSlice (cs:=[ii 1,.slice (ik v) 128 128]) NH rfl rfl (by simp[Value.cells]) (by simp[Value.cells]) (by decide) rfl ?_;intro nc;obtain⟨A,K⟩:∃A:mz,A=⟨2,0,0,0,ik nc,1,1,none,0,0⟩:=⟨_,rfl⟩;refine VO.pure rfl rfl (af.build mM rfl (show aC _ _ _=some A.cells by rw[K];simp[aC,bR,Value.cells])) rfl ?_;have k:putCells [t]=[ii 1,.slice (ik v) 128 128]:=by rw[b];show[_,Value.slice _ (D.length:Nat) _]=_;rw[i];rfl
 have hm:z.X.ring<2*dF z.X.m z.X.c [t]+1↔False:=by
  rw[n,u,X];have:=BJ (m:=3) (c:=1) (by decide) (by decide) [t];simp only[ie]at this;exact⟨λq=>by omega,False.elim⟩
 have J:Rest z (3+1) (fy z.X.m z.X.c λ_=>dC) 0 1 0 1 70000:=by rw[n,u];exact J
 have F:=Qu (W:=W) (R:=R) (r:=r) (A:=A) (L:=[Row nc 68 [ii 1,.slice (ik v) 128 128],b8 (ik v,128) D]) (l:=[t]) J (show 1<=256 by decide) (λR=>by
  rw[K];refine⟨?_,λq C=>?_,λq C=>?_⟩
  · rw[k];exact aV.row (by simp[Value.oneCell']) (.head _) rfl
  · rw[ju.1 C,b];exact aV.own (aQ _) (.tail _ (.head _)) (by simp) (by simp)
  · rw[ju.1 C,b];exact i) (by rw[K];rfl) (λq C=>by rw[ju.1 C,b,n,u,M];show 1<2*1* (3-1);decide) (λ_ _=>rfl) (by decide) (by rw[K])
 simp only[hm,if_false]at F;obtain⟨B,Z⟩:∃B,B=hU [t] λ_=>dC:=⟨_,rfl⟩;have N:B 1=D:=by rw[Z,b];rfl
 rw[<-Z]at F;refine zr (s:=F) (h:=?_);rintro z1 ⟨⟨g1,I⟩,_,g2⟩;have g2:z1.t.v.sure=true:=by
  rcases g2 Y with q|q|q
  · exact q.elim
  · cases q
  · exact q
 rw[<-I.m,<-I.c]at g1;refine zw ?_;refine ay.aB eG rfl ?_;intro na;refine zl (cn ((0:Nat):Int) dh (eU z.t.D z1.t.D)) (cL rfl) ?_;obtain⟨A2,a⟩:∃A:mz,A=⟨9,0,0,0,none,0,0,none,0,0⟩:=⟨_,rfl⟩;refine VO.pure rfl rfl (af.build mM rfl (show aC _ _ _=some A2.cells by rw[a];simp[aC,bR,Value.cells])) rfl ?_;refine zr (s:=LX (r:=r) (A:=A2) (kl:=[]) g1 (by decide) g2 (by decide) (by decide) (by rw[a]) (λR=>by rw[a];exact RP W R) (by rw[a];rfl) (by rw[a];exact Int.le_refl 0)) (h:=?_);rintro z2 ⟨⟨g3,k2⟩,_⟩;refine zw ?_;refine ay.aB eG rfl ?_;intro nb;refine zl (cn 0 dh (eU z1.t.D z2.t.D)) (cL rfl) ?_;have G:=I.trans k2;obtain⟨T,o⟩:∃A:mz,A=⟨4,1,0,0,none,0,0,none,0,0⟩:=⟨_,rfl⟩;refine VO.pure rfl rfl (af.build mM rfl (show aC _ _ _=some T.cells by rw[o];simp[aC,bR,Value.cells])) rfl ?_;refine zr (s:=O3 (r:=r) (A:=T) (g3.up (j:=1) (by rw[G.m,n];decide)) (by decide) (by decide) (by rw[o]) (by rw[o];rfl)) (h:=?_);rintro z3 ⟨⟨g4,k3⟩,_⟩;refine zw ?_;refine ay.aB eG rfl ?_;intro nf;refine zl (cn 0 dh (eU z2.t.D z3.t.D)) (cL rfl) ?_;have d:=G.trans k3;obtain⟨U,g⟩:∃A:mz,A=⟨1,0,1,1,none,0,0,none,0,0⟩:=⟨_,rfl⟩;refine VO.pure rfl rfl (af.build mM rfl (show aC _ _ _=some U.cells by rw[g];simp[aC,bR,Value.cells])) rfl ?_;have E:=LY (W:=W) (R:=Row nf 44 (cn 0 dh (eU z2.t.D z3.t.D))::Row nb 44 (cn 0 dh (eU z1.t.D z2.t.D))::Row na 44 (cn ((0:Nat):Int) dh (eU z.t.D z1.t.D))::R) (r:=r) (A:=U) g4 1 1 (by rw[d.m,d.c,d.s,n,u,M];decide) (by rw[g]) (by rw[g];rfl) (by rw[g];rfl);rw[I.m,I.c,d.m,d.c,Hh (by rw[n];decide) (by rw[u];decide),show(List.range 1).flatMap (λj=>B (1+j))=D by simp[N]]at E;refine zr (s:=E) (h:=?_);rintro⟨z4,y⟩ ⟨⟨g5,k4⟩,_⟩;dsimp only at g5 k4⊢;refine VO.bH (p:=y.1=none->D.length=0) (λw F=>F.bn (.head _)) ?_;intro Q;refine zw ?_;refine ay.aB eG rfl ?_;intro nd;refine zl (cn 0 (sliceB y D) (eU z3.t.D z4.t.D)) (cL rfl) ?_;obtain⟨V,x⟩:∃A:mz,A=⟨3,0,0,0,none,0,0,none,0,0⟩:=⟨_,rfl⟩;refine VO.pure rfl rfl (af.build mM rfl (show aC _ _ _=some V.cells by rw[x];simp[aC,bR,Value.cells])) rfl ?_;have g6:Rest z4 (3+1) (fy z.X.m z.X.c B) 1 2 0 (1+1+1) (70000+4000+3000+40):=g5;refine zr (s:=Te (r:=r) (A:=V) g6 (by decide) (by rw[x])) (h:=?_);rintro z5 _;refine zw ?_;refine ay.aB eG rfl ?_;intro nl;refine zl (cn 0 dh (eU z4.t.D z5.t.D)) (cL rfl) ?_;refine VC.aR (H':=Row nl 44 (cn 0 dh (eU z4.t.D z5.t.D))::Row nd 44 (cn 0 (sliceB y D) (eU z3.t.D z4.t.D))::Row nf 44 (cn 0 dh (eU z2.t.D z3.t.D))::Row nb 44 (cn 0 dh (eU z1.t.D z2.t.D))::Row na 44 (cn 0 dh (eU z.t.D z1.t.D))::b8 y D::R) ae.re ?_;refine zx [21] 22 [0,1,2,3,4,5,6,7,8,9,10,11,12,13,14,15,16,17,18,19,20,21,22,23,24] _ ?_;refine zt (s:=ru (f:=7) (by decide)) (h:=?_);intro S _;refine⟨ae.re,?_⟩;refine w ?_;rw[<-O];refine VD.re 57 (.slice y.1 128 y.2) rfl (by show Value.slice y.1 D.length y.2=_;rw[i]) ?_;have hs:∀H,b8 y D∈H->b8 (ik S,128) D∈H->az W Tryz.prog 16 [.slice y.1 128 y.2,.slice (ik S) 128 128] H (.bool true) H:=λH m1 m2=>by
  have r1:aV W H 1 y.1 D.length (bytes D):=aV.own (aQ _) m1 (by rw[ff];omega) Q;have r2:aV W H 1 (ik S) D.length (bytes D):=aV.own (aQ _) m2 (by rw[ff];omega) (λe=>by cases e);rw[i]at r1 r2;have:=xV (cap:=y.2) (cap':=128) r1 r2 (by decide);rwa [ky (rfl:D=D)]at this
 refine zt (s:=hs _ zm (.head _)) (h:=?_);intro _ _;refine w ?_;exact VE.done () rfl trivial rfl ae.re
end
end Go.Proofs.YtonpidcjpenflaaGreat
namespace Go.Proofs.YtonpidcjpenflaaGreat
open Go.RowKit Go.Sl
attribute [local irreducible] Sl.Own
section
variable{W:World}{R:List ab}
theorem mf.up{X:sG}{z:dN}{B:Nat->List UInt8}{n k E C:Nat}(h:mf X z B n k 1 0 E C){j:Nat}(a:j<z.X.m):mf X z B n j 1 0 E C:=⟨h.rest.up a,h.m,h.c,h.s,h.ring,h.lazy,h.wb,h.sN,h.ok,h.there⟩
theorem GK{p:dy}{T st:Nat}{ko:Option Addr}{kc:Nat}{kl:List fI}(h:p.wf W)(da:T<256)(dc:st<256)(hk:∀R,oy W R ko kl)(cS:kl.length<=140737488351232):
    az W Tryz.prog 3 [.agg p.cells.toArray,ib T,ib st,.slice ko kl.length kc] R (.bool true) R:=by
  refine ze Tryz.func3 Tryz.ntmps3 ?_;repeat (refine zj λ_=>?_;refine w ?_)
  rename_i q;refine zt (s:=Rr h) (h:=?_);rintro b hb;cases b with
  |true=>
    refine w ?_;repeat (refine zj λ_=>?_;refine w ?_)
    exact VE.done () rfl trivial rfl (ae.drop ae.refl)
  |false=>
    have hn:=hb rfl;clear hb;refine w ?_;repeat (refine zj λ_=>?_;refine w ?_)
    refine zk ?_ ?_<;>intro f
    · refine w ?_;repeat (refine zj λ_=>?_;refine w ?_)
      exact VE.done () rfl trivial rfl (ae.drop ae.refl)
    clear f;refine w ?_;repeat (refine zj λ_=>?_;refine w ?_)
    refine zt (s:=IJ h hn) (h:=?_);rintro⟨c,X0,z0⟩ ⟨h0,_,E,F⟩;dsimp only at h0 E F⊢;refine w ?_;repeat (refine zj λ_=>?_;refine w ?_)
    refine zt (s:=Ll) (h:=?_);intro _ _;refine w ?_;repeat (refine zj λ_=>?_;refine w ?_)
    have cY:=hn.len;obtain⟨r,ba⟩:∃r,r=X0.r:=⟨_,rfl⟩;rw[<-ba];refine VC.loop (α:=sG×dN×(Nat->List UInt8)×Nat) (λy=>y.2.2.2<=p.l.length/\mf y.1 y.2.1 y.2.2.1 (p.gm+1) 0 1 0 1 (70000+4000*y.2.2.2)/\y.1.r=r/\y.1.m=p.gm/\y.1.s=p.gs) (λy=>kQ c y.1 (kH r y.2.1 (Row q 25 p.cells::R))) (λy=>[(1,ib T),(2,ib st),(3,.slice ko kl.length kc),(4,ip q),(9,eE c),(11,ii y.2.2.2)]) (λy=>p.l.length-y.2.2.2) rfl (X0,z0,(λ_=>dC),0) ⟨c7 _,h0,ba.symm,E,F⟩ ae.re ⟨rfl,rfl,rfl,rfl,rfl,rfl,trivial⟩ ?_;rintro⟨X,z,B,i⟩ ⟨hi,n,t,C,D⟩;dsimp only at hi n t C D⊢;refine w ?_;repeat (refine zj λ_=>?_;refine w ?_)
    refine zk ?_ ?_<;>intro f
    · have O:i<p.l.length:=by have:=cI f;omega
      clear f
      have hr:=h.l.gz (kQ c X (kH r z (Row q 25 p.cells::R)))
      obtain⟨xa,bh⟩:=iK hr.nil zO
      rw[bh]at hr
      have hw:=h.l.each _ (fF O)
      refine w ?_;repeat (refine zj λ_=>?_;refine w ?_)
      refine VO.re 49 (.slice (some xa) p.l.length p.x.2) rfl (by rw[bh]) ?_
      refine w ?_;repeat (refine zj λ_=>?_;refine w ?_)
      ((first|apply VO.pure rfl rfl|apply VQ.pure rfl rfl|apply VD.take rfl rfl rfl|(refine VD.end rfl rfl rfl ?_;apply ay.pure));exact af.fH ah rfl rfl hr (mP p.l i 3 O (by decide));rfl)
      have spec:=Kx (W:=W) (R:=Row q 25 p.cells::R) (p:=c) (bc:=p.l[i].x.2) n zO hw.l
      rw[t]at spec
      refine zr (s:=spec) (h:=?_)
      rintro⟨X1,z1,B1⟩ ⟨⟨g1,g2⟩,g3⟩
      dsimp only at g1 g2 g3⊢
      refine w ?_;repeat (refine zj λ_=>?_;refine w ?_)
      exact VE.round (X1,z1,B1,i+1) ⟨O,by dsimp only;rw[Nat.mul_succ,<-PA];exact g1,g3,(g1.m.trans (g2.m.trans n.m.symm)).trans C,(g1.s.trans (g2.s.trans n.s.symm)).trans D⟩ (by dsimp only;omega) ⟨rfl,rfl,rfl,rfl,rfl,b7 rfl (by congr 1),trivial⟩ ae.re
    have ct:i=p.l.length:=by have:=dx f;omega
    clear f;have cw:3<=p.gm/\p.gm<=16:=by unfold dy.gm;omega
    have cy:1<=p.gs/\p.gs<=256:=by have:=h.c;unfold dy.gs;omega
    obtain⟨k,au⟩:∃k,k=T%p.gm:=⟨_,rfl⟩;have av:k<p.gm:=by rw[au];exact nE _ zO
    obtain⟨s1,bd⟩:∃s1,s1=st%p.gs:=⟨_,rfl⟩;have P:s1<p.gs:=by rw[bd];exact nE _ zO
    have cb:z.X.m=p.gm:=n.m.symm.trans C;have cc:z.X.s=p.gs:=n.s.symm.trans D;have n:=n.up (j:=k) (by rw[cb];exact av);obtain⟨U,aa⟩:∃U,U=70000+4000*i:=⟨_,rfl⟩;have ch:U<=870000:=by omega
    rw[<-aa]at n;clear aa;obtain⟨A,hA⟩:∃A:mz,A=⟨5,k,0,0,none,0,0,none,0,0⟩:=⟨_,rfl⟩
    have bt:∀R,aq W Tryz.prog 8 [eE r,.agg A.cells.toArray] (kH r z R) (β:=dN) (λv=>(Rest v (p.gm+1) (fy z.X.m z.X.c B) k 3 0 (1+2) (U+1103)/\z.mH v)/\v.a=z.a/\v.calm) (λv=>.agg (cn 0 dh (eU z.t.D v.t.D)).toArray) (λv=>[]++kH r v R):=λR=>
      Rh (A:=A) n.rest (by decide) zO (by rw[hA]) (by rw[hA])
    refine w ?_;repeat (refine zj λ_=>?_;refine w ?_)
    refine VC.aR (H':=Cz r z::kQ c X (Row q 25 p.cells::R)) (λw hw=>(ae.re:ae W _ ([Row r 81 (kW z).cells,al z.t.Y.b z.t.D,z.O]++kQ c X (Row q 25 p.cells::R))) w hw |>.nest) ?_;refine VC.qO [13,14] 15 14 [0,1,2,3,4,5,6,7,8,9,10,11,12,13,14,15] (kQ c X (Row q 25 p.cells::R)) 13 (λb=>Row b 44 (cn 0 dh 0)) (λb=>eE b) rfl (by kernel_rfl) (by kernel_rfl) ae.re ?_;(repeat (apply VX.take rfl rfl rfl rfl;exact zp;rfl;rfl;rfl));refine VX.re 68 (ii T) rfl (by rw[IntWalk.i64_in _ ⟨by omega,by omega⟩]) rfl rfl ?_;apply VX.take rfl rfl rfl rfl
    · exact af.rem (a:=T) (b:=X.m) rfl rfl zO
    · rfl
    · rfl
    · rfl
    refine VX.re 74 (ii k) rfl (by rw[C,au]) rfl rfl ?_;refine VX.re 66 (eE r) rfl (by rw[t]) rfl rfl ?_;apply VX.take rfl rfl rfl rfl
    · exact af.build mM rfl (show aC _ _ _=some A.cells by rw[hA];simp[aC,bR,Value.cells])
    · rfl
    · rfl
    · rfl
    refine VX.uk (K:=Cz r z) (S:=λv:dN=>[]++[Cz r v]) (H':=kQ c X (Row q 25 p.cells::R)) rfl rfl rfl rfl rfl rfl (λ_ _=>by simp) (Rg bt) (by(repeat first|exact .refl|(apply aP.cons;focus repeat first|exact .head|apply nW.tail)|exact .nil|apply aP.drop)) rfl (dG.alloc eG rfl) ae.re (λ_ _=>ae.re) rfl rfl rfl ?_;rintro z1 ⟨⟨g1,k1⟩,_,c1⟩;refine VX.float rfl rfl (dG.alloc eG rfl) ae.re ?_;intro n13;refine w ?_;repeat (refine zj λ_=>?_;refine w ?_)
    refine zl (cn 0 dh (eU z.t.D z1.t.D)) (cL rfl) ?_;repeat (refine zj λ_=>?_;refine w ?_)
    refine VO.re 78 (ii st) rfl (by rw[IntWalk.i64_in _ ⟨by omega,by omega⟩]) ?_;((first|apply VO.pure rfl rfl|apply VQ.pure rfl rfl|apply VD.take rfl rfl rfl|(refine VD.end rfl rfl rfl ?_;apply ay.pure));exact af.rem (a:=st) (b:=X.s) rfl rfl zO;rfl);refine w ?_;repeat (refine zj λ_=>?_;refine w ?_)
    refine VC.re 14 (ii s1) rfl (by rw[D,bd]) ?_;obtain⟨M,hM⟩:∃M,M=Row n13 44 (cn 0 dh (eU z.t.D z1.t.D))::Row q 25 p.cells::R:=⟨_,rfl⟩;obtain⟨V,hV⟩:∃V,V=fy z.X.m z.X.c B:=⟨_,rfl⟩;rw[<-hV]at g1;obtain⟨Y,bm⟩:∃Y,Y=U+1103:=⟨_,rfl⟩;rw[<-bm]at g1;have bk:z1.X.s=p.gs:=k1.s.trans cc;obtain⟨Q,m⟩:∃A:mz,A=⟨6,0,0,0,none,0,0,none,0,0⟩:=⟨_,rfl⟩;refine VC.aR (H':=kQ c X (kH r z1 M)) (ae.trans (H':=Cz r z1::kQ c X M) (by rw[hM];exact ae.re) (λw hw=>(ae.re:ae W ([Row r 81 (kW z1).cells,al z1.t.Y.b z1.t.D,z1.O]++kQ c X M) (kQ c X (kH r z1 M))) w hw.join)) ?_;refine VC.loop (α:=dN×Nat) (λy=>y.2<=s1/\Rest y.1 (p.gm+1) V k 3 y.2 (3+y.2) (Y+60*y.2)/\y.1.calm/\z1.mH y.1) (λy=>kQ c X (kH r y.1 M)) (λy=>[(3,.slice ko kl.length kc),(9,eE c),(13,eE n13),(14,ii s1),(15,ii y.2)]) (λy=>s1-y.2) rfl (z1,0) ⟨c7 _,g1,c1,dN.mH.refl z1⟩ ae.re ⟨rfl,rfl,rfl,rfl,rfl,trivial⟩ ?_;rintro⟨z2,j⟩ ⟨hj,g2,c2,k2⟩;dsimp only at hj g2 c2 k2⊢;have J:z2.X.s=p.gs:=k2.s.trans bk;refine w ?_;repeat (refine zj λ_=>?_;refine w ?_)
    refine zk ?_ ?_<;>intro f
    · have bw:j<s1:=by have:=cI f;omega
      clear f
      refine w ?_;repeat (refine zj λ_=>?_;refine w ?_)
      refine VO.re 93 (eE r) rfl (by rw[t]) ?_
      ((first|apply VO.pure rfl rfl|apply VQ.pure rfl rfl|apply VD.take rfl rfl rfl|(refine VD.end rfl rfl rfl ?_;apply ay.pure));exact af.build mM rfl (show aC _ _ _=some Q.cells by rw[m];simp[aC,bR,Value.cells]);rfl)
      refine zr (s:=LZ (r:=r) (A:=Q) g2 c2 zO zO (by rw[m])) (h:=?_)
      rintro⟨z3,nn⟩ ⟨⟨g3,k3⟩,_,Z⟩
      dsimp only at g3 k3 Z⊢
      refine w ?_;repeat (refine zj λ_=>?_;refine w ?_)
      refine zq ?_;refine ay.aB eG rfl ?_;intro n16
      refine w ?_;repeat (refine zj λ_=>?_;refine w ?_)
      refine zl (cn 0 (.slice (ik nn) 1 1) (eU z2.t.D z3.t.D)) (cL rfl) ?_;repeat (refine zj λ_=>?_;refine w ?_)
      rw[J,show RR p.gs j=3 from aE zO,show RQ p.gs j=j+1 from aE zO]at g3
      exact VE.round (z3,j+1) ⟨bw,g3,Z,k2.trans k3⟩ (by dsimp only;omega) ⟨rfl,rfl,rfl,rfl,b7 rfl (by congr 1),trivial⟩ ae.re
    have I:j=s1:=by have:=dx f;omega
    clear f;refine w ?_;repeat (refine zj λ_=>?_;refine w ?_)
    obtain⟨o,ho⟩:∃o:oC,o=⟨0,0,0,(none,0),[],(ko,kc),kl⟩:=⟨_,rfl⟩;((first|apply VO.pure rfl rfl|apply VQ.pure rfl rfl|apply VD.take rfl rfl rfl|(refine VD.end rfl rfl rfl ?_;apply ay.pure));exact af.build TD rfl (show aC _ _ _=some o.cells by rw[ho];simp[aC,bR,Value.cells]);rfl);rw[hV]at g2;have bs:mf X z2 B (p.gm+1) k 3 j (3+j) (Y+60*j):=n.on g2 (k1.trans k2);have H:=NT (W:=W) (R:=M) (p:=c) (kl:=kl) (o:=o) bs (by decide) c2.sure zO zO (by rw[ho]) (by rw[ho];exact hk);rw[t]at H;refine zr (s:=H) (h:=?_);rintro⟨X2,z3⟩ ⟨⟨l,k3⟩,d,Z⟩;dsimp only at l k3 d Z⊢;refine w ?_;repeat (refine zj λ_=>?_;refine w ?_)
    refine VO.re 107 (eE r) rfl (by rw[d]) ?_;refine zr (s:=Sd (r:=r) l.rest) (h:=?_);intro y _;refine w ?_;repeat (refine zj λ_=>?_;refine w ?_)
    refine zq ?_;refine ay.aB xZ rfl ?_;intro n17;refine w ?_;repeat (refine zj λ_=>?_;refine w ?_)
    refine zq ?_;refine ay.gL (vs:=lP (vU.sup z3.X y) false z3.t.Y.wl.length z3.t.v.used) ah rfl rfl rfl rfl (by simp[Value.oneCell']) zh (by simp) ?_;rw[hM];refine w ?_;repeat (refine zj λ_=>?_;refine w ?_)
    have an:z3.X.cur=j:=l.rest.sh.cur;refine VC.aK rfl rfl (by show((z3.X.cur:Int) != (s1:Int))=false;rw[an,I];simp) ?_;refine w ?_;repeat (refine zj λ_=>?_;refine w ?_)
    have L:z3.X.s=p.gs:=k3.s.trans J;have ag:X2.s=p.gs:=l.s.trans L;obtain⟨E4,br⟩:∃E4,E4=3+j+1:=⟨_,rfl⟩;obtain⟨C4,bo⟩:∃C4,C4=Y+60*j+3000:=⟨_,rfl⟩;rw[<-br,<-bo]at l;have cr:E4<=300:=by omega
    have ck:C4<=890000:=by omega
    obtain⟨V3,ad⟩:∃V3,V3=fy z3.X.m z3.X.c B:=⟨_,rfl⟩
    refine VC.loop (α:=dN×Nat) (λy=>(s1<=y.2/\y.2<=p.gs)/\Rest y.1 (p.gm+1) V3 k (if y.2=p.gs then 1 else 3) (if y.2=p.gs then 0 else y.2) (E4+y.2) (C4+60*y.2)/\y.1.calm/\z3.mH y.1) (λy=>kQ c X2 (kH r y.1 R)) (λy=>[(9,eE c),(19,ii y.2)]) (λy=>p.gs-y.2) rfl (z3,s1) ⟨⟨eI _,Nat.le_of_lt P⟩,by
      dsimp only
      rw[aE zO,aE zO,ad,<-I]
      have g:=l.rest
      exact⟨g.ok,g.n,g.ring,g.id,⟨g.ev.1,qX g.ev.2 (Nat.le_add_right _ _)⟩,g.sf,g.cap,qX g.c (Nat.le_add_right _ _),g.lost,g.sh,g.len,g.SS⟩,Z,dN.mH.refl z3⟩ ae.re ⟨rfl,rfl,trivial⟩ ?_
    rintro⟨z4,u⟩ ⟨⟨bx,bG⟩,g4,c4,k4⟩;dsimp only at bx bG g4 c4 k4⊢;have N:z4.X.s=p.gs:=k4.s.trans L;refine w ?_;repeat (refine zj λ_=>?_;refine w ?_)
    refine zk ?_ ?_<;>intro f
    · have ca:u<p.gs:=by have:=cI f;omega
      clear f
      rw[aE zO,aE zO]at g4
      refine w ?_;repeat (refine zj λ_=>?_;refine w ?_)
      refine VO.re 142 (eE r) rfl (by rw[d]) ?_
      ((first|apply VO.pure rfl rfl|apply VQ.pure rfl rfl|apply VD.take rfl rfl rfl|(refine VD.end rfl rfl rfl ?_;apply ay.pure));exact af.build mM rfl (show aC _ _ _=some Q.cells by rw[m];simp[aC,bR,Value.cells]);rfl)
      refine zr (s:=LZ (r:=r) (A:=Q) g4 c4 zO zO (by rw[m])) (h:=?_)
      rintro⟨z5,nn⟩ ⟨⟨g5,k5⟩,_,c5⟩
      dsimp only at g5 k5 c5⊢
      refine w ?_;repeat (refine zj λ_=>?_;refine w ?_)
      refine zq ?_;refine ay.aB eG rfl ?_;intro n20
      refine w ?_;repeat (refine zj λ_=>?_;refine w ?_)
      refine zl (cn 0 (.slice (ik nn) 1 1) (eU z4.t.D z5.t.D)) (cL rfl) ?_;repeat (refine zj λ_=>?_;refine w ?_)
      refine VC.quiet rfl (by kernel_rfl) (by kernel_rfl) ?_;refine w ?_;repeat (refine zj λ_=>?_;refine w ?_)
      have hv:∀G:Nat,(!(((if decide (u+1=G)=true then(1:Int)else 0)==1)==((u:Int)==(G:Int)-1)))=false:=λG=>by
        by_cases e:u+1=G
        · have e2:(u:Int)=(G:Int)-1:=by omega
          simp[e,e2]
        · have e2:¬(u:Int)=(G:Int)-1:=by omega
          simp[e,e2]
      refine VC.aK rfl rfl (by rw[N,ag];exact hv p.gs) ?_
      refine w ?_;repeat (refine zj λ_=>?_;refine w ?_)
      rw[N]at g5
      exact VE.round (z5,u+1) ⟨⟨by dsimp only;omega,ca⟩,g5,c5,k4.trans k5⟩ (by dsimp only;omega) ⟨rfl,b7 rfl (by congr 1),trivial⟩ ae.re
    have bf:u=p.gs:=by have:=dx f;omega
    clear f;rw[lam bf,lam bf]at g4;refine w ?_;repeat (refine zj λ_=>?_;refine w ?_)
    refine VO.re 173 (eE r) rfl (by rw[d]) ?_;((first|apply VO.pure rfl rfl|apply VQ.pure rfl rfl|apply VD.take rfl rfl rfl|(refine VD.end rfl rfl rfl ?_;apply ay.pure));exact af.build mM rfl (show aC _ _ _=some Q.cells by rw[m];simp[aC,bR,Value.cells]);rfl);refine zr (s:=O4 (r:=r) (A:=Q) g4 (by rw[m])) (h:=?_);intro _ _;refine w ?_;repeat (refine zj λ_=>?_;refine w ?_)
    refine zq ?_;refine ay.aB eG rfl ?_;intro n21;refine w ?_;repeat (refine zj λ_=>?_;refine w ?_)
    refine zl (cn 160 dh (eU z4.t.D z4.t.D)) (cL rfl) ?_;repeat (refine zj λ_=>?_;refine w ?_)
    rw[ad]at g4;have bb:=NW (W:=W) (R:=Row n21 44 (cn 160 dh (eU z4.t.D z4.t.D))::R) (p:=c) (l.on g4 k4);rw[d]at bb;refine zr (s:=bb) (h:=?_);intro z6 _;refine w ?_;repeat (refine zj λ_=>?_;refine w ?_)
    exact VE.done () rfl trivial rfl ae.re
end
end Go.Proofs.YtonpidcjpenflaaGreat
