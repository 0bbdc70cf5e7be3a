import Derived.Test.YtonpidcjpenflaaGreatM12
import Derived.WalkKit
import Derived.ProofKit
import Derived.OpenShut
import Derived.ShutString
import Derived.ChangeOld
import Derived.Below
import Derived.Carry
/- The law TopCursor: its frame, written by program (wip/law.py), about the walk. -/
set_option linter.unusedVariables false
set_option linter.unusedSimpArgs false
namespace Go.Proofs.YtonpidcjpenflaaGreat.topCursor
open Go.ChangeShapes Go.WideShapes Go.ChangeAt Go.RowKit Go.Sl

theorem own:ownKnob Tryz.prog.godebug=none:=by kernel_rfl
theorem laidOut:laidOutB Tryz.prog=true:=by kernel_rfl

theorem walk(W:World)(c:List Value)(h:Int)(a2:Int)(a3:Option Addr)(b a:Nat)(i0:jA Tryz.prog W 25 c)(n:(Lit.int .u8 h).wf=true)(o:(Lit.int .u8 a2).wf=true)(i3:jA Tryz.prog W 26 [.slice a3 b a]):
  Calls Tryz.prog 3 #[.agg c.toArray,.int .u8 h,.int .u8 a2,.slice a3 b a] W λe m=>e= .returned (.bool true)/\Below W.heap.size W m:=by
 obtain⟨p,rfl,l⟩:=PR i0;obtain⟨q,rfl,f⟩:=nS n;obtain⟨st,rfl,g⟩:=nS o;obtain⟨kl,rfl,k,_,d⟩:=DI i3;exact(GK (W:=W) (R:=[]) l f g k d).calls.mono λ_ _ ⟨⟨_,_,j⟩,i⟩=>⟨j,i⟩

set_option maxRecDepth 100000 in
theorem lifted(os:Os)(started:os.Started)(H:Type)(enc:TypeId×Value->H):
  ReturnsInHanded {} Tryz.checked os 3 .any (Rows.topCursorSpec.pre6 enc Tryz.prog Tryz.f3 Rows.topCursorRow.domain false) (Rows.topCursorSpec.post enc Tryz.prog Tryz.f3 false true false false):=by
 refine returnsInHanded_of_change_sized (C:=Tryz.checked) own started (by kernel_rfl) Tryz.func3
  (ChangeSpec.witness6 (enc:=enc) (C:=Tryz.checked) false ⟨#[],#[.agg #[.int .u8 0,.int .u8 0,.int .u8 0,.int .u16 0,.bool false,.slice none 0 0],.int .u8 0,.int .u8 0,.slice none 0 0],[]⟩ 8 (by kernel_rfl) (by kernel_rfl) (by kernel_rfl) (by kernel_rfl)) ?_
 intro W base args ds gs before c hW E u _;have a:∀(j:Nat) t v,Tryz.f3.params[j]?=some t->args[j]?=some v->Value.okWide Tryz.prog W .any base t v:=c;have b:(DataW.weightsEach Tryz.prog (Tryz.f3.params.toList++[]) (ds++gs)).all (·<=reachBytes)=true:=u;have l:=hW;obtain⟨p,q,k,R,rfl,T,U⟩:=hW;have D:DataW.TrodAll enc Tryz.prog W 0 (λ_=>true) true Tryz.f3.params.toList args.toList ds p:=k;rw[List.append_nil,Tryz.params3]at b;rw[Tryz.params3]at D a;obtain⟨v0,aa,d0,L,V,q0,o,rfl,rfl,A,Y⟩:=trodAll_cons D;obtain⟨v1,ad,d1,M,p1,q1,rfl,rfl,rfl,P,Z⟩:=trodAll_cons Y;obtain⟨v2,ag,d2,N,p2,q2,rfl,rfl,rfl,Q,r2⟩:=trodAll_cons Z;obtain⟨v3,an,d3,O,X,q3,rfl,rfl,rfl,B,r3⟩:=trodAll_cons r2;obtain⟨rfl,rfl,rfl⟩:=trodAll_nil r3;obtain rfl:args=#[v0,v1,v2,v3]:=by cases args;simp_all
 obtain⟨rfl,rfl⟩:=trodVars_none R;rw[List.append_nil]at b;obtain⟨i,rfl⟩:=Gh Tryz.underlying25 (a 0 25 v0 rfl rfl);have F:=A;have y:∀x∈V,x.block<W.heap.size:=by obtain⟨m,g⟩:=F;exact DataW.trod_lt m _ _ _ g
 have i0:jA Tryz.prog W 25 i:=by
  obtain⟨m,g⟩:=A;exact jA.HR m _ _ _ g λn s=>of_decide_eq_true (List.all_eq_true.1 b n (kp (j:=0) (t:=25) rfl rfl s))
 obtain⟨K,rfl,rfl,rfl,I⟩:=open_int Tryz.underlying5 (a 1 5 v1 rfl rfl) P;obtain⟨a2,rfl,rfl,rfl,J⟩:=open_int Tryz.underlying5 (a 2 5 v2 rfl rfl) Q;obtain⟨a3,f,d,rfl⟩:=okWide_slice Tryz.underlying26 (a 3 26 v3 rfl rfl);have G:=B;have z:∀x∈X,x.block<W.heap.size:=by obtain⟨m,g⟩:=G;exact DataW.trod_lt m _ _ _ g
 have i3:jA Tryz.prog W 26 [.slice a3 f d]:=by
  obtain⟨m,g⟩:=B;exact jA.HR m _ _ _ g λn s=>of_decide_eq_true (List.all_eq_true.1 b n (kp (j:=3) (t:=26) rfl rfl s))
 clear k c;simp only[List.append_nil]at l;refine(walk W i K a2 a3 f d i0 I J i3).mono λe W' ⟨S,r⟩=>?_;subst S;exact⟨_,rfl,_,_,_,[],_,[],l,trodAll_mk1 (shut_bool Tryz.underlying4 _),(trodAll_cons_mk (Below.trod laidOut (by kernel_rfl) (of_decide_eq_true (by kernel_rfl)) F r y) (trodAll_cons_mk (shut_int Tryz.underlying5 I) (trodAll_cons_mk (shut_int Tryz.underlying5 J) (trodAll_cons_mk (Below.trod laidOut (by kernel_rfl) (of_decide_eq_true (by kernel_rfl)) G r z) trodAll_mk0)))),rfl,r.frame _,λh=>by cases h⟩

theorem f1:laidOutB Tryz.prog=true:=laidOut
theorem f2:mapsRowed Tryz.prog=true:=by kernel_rfl
theorem f3:(Rows.topCursorRow.inPlace==Tryz.prog.inPlace 3)=true:=by kernel_rfl
theorem f4:(Rows.topCursorRow.unfollowed==Tryz.prog.unfollowed 3)=true:=by kernel_rfl
theorem f5:(Rows.topCursorRow.recurses==Tryz.prog.recurses 3)=true:=by kernel_rfl
theorem f6:(Rows.topCursorRow.named==Tryz.prog.varsNamed 3)=true:=by kernel_rfl
theorem f7:Tryz.prog.stopsHeard=true:=by kernel_rfl
theorem f8:Tryz.prog.mayEnter=true:=by kernel_rfl
theorem f9:Tryz.prog.funcNamed Rows.topCursorRow.func=some 3:=by kernel_rfl
theorem closed:joinedFacts Tryz.prog 3 Tryz.f3 Rows.topCursorSpec Rows.topCursorRow=true:=by
 simp only[joinedFacts,Bool.and_eq_true];exact⟨⟨⟨⟨⟨⟨⟨⟨⟨⟨⟨⟨⟨⟨⟨⟨⟨⟨⟨⟨⟨⟨⟨⟨⟨⟨⟨⟨⟨⟨⟨by kernel_rfl,f1⟩,f2⟩,by kernel_rfl⟩,by kernel_rfl⟩,by kernel_rfl⟩,by kernel_rfl⟩,by kernel_rfl⟩,by kernel_rfl⟩,f3⟩,f4⟩,f5⟩,f6⟩,by kernel_rfl⟩,by kernel_rfl⟩,by kernel_rfl⟩,by kernel_rfl⟩,by kernel_rfl⟩,by kernel_rfl⟩,by kernel_rfl⟩,by kernel_rfl⟩,by kernel_rfl⟩,by kernel_rfl⟩,by kernel_rfl⟩,f7⟩,f8⟩,by kernel_rfl⟩,by kernel_rfl⟩,by kernel_rfl⟩,by kernel_rfl⟩,by kernel_rfl⟩,by kernel_rfl⟩
theorem Ui:Rows.topCursorRow.holds Tryz.pinned (OpenSpec.ofChange Rows.topCursorSpec):=
 OpenClaim.holds_of_wide 3 Tryz.f3 rfl rfl rfl rfl rfl rfl rfl ⟨rfl,rfl,rfl,rfl,rfl⟩ rfl rfl rfl rfl rfl f9 Tryz.func3 closed
  (of_decide_eq_true (by kernel_rfl)) (by unfold Func.isWrapper;first|(rw[if_pos (by decide+kernel)];kernel_rfl)|(rw[if_neg (by decide+kernel)];exact⟨rfl,rfl⟩))
  (λos started H enc _=>lifted os started H enc)

/-- THE STATEMENT. -/
theorem proved:Rows.TopCursorSaid:=
  Ui
#print axioms proved
end Go.Proofs.YtonpidcjpenflaaGreat.topCursor

