import Derived.Test.YtldolcbbmnmjoaaGreatM12
import Derived.WalkKit
import Derived.ProofKit
import Derived.OpenShut
import Derived.ShutString
import Derived.ChangeOld
import Derived.Below
import Derived.Carry
/- The law TopSeal: its frame, written by program (wip/law.py), about the walk. -/
set_option linter.unusedVariables false
set_option linter.unusedSimpArgs false
namespace Go.Proofs.YtldolcbbmnmjoaaGreat.topSeal
open Go.ChangeShapes Go.WideShapes Go.ChangeAt Go.RowKit Go.Sl

theorem own:ownKnob Tryz.prog.godebug=none:=by kernel_rfl
theorem laidOut:laidOutB Tryz.prog=true:=by kernel_rfl

theorem walk(W:World)(f:List Value)(i:Option Addr)(c a:Nat)(a2:Int)(a3:Option Addr)(d b:Nat)(i0:jA Tryz.prog W 25 f)(i1:jA Tryz.prog W 26 [.slice i c a])(r:(Lit.int .u8 a2).wf=true)(i3:jA Tryz.prog W 27 [.slice a3 d b]):
  Calls Tryz.prog 3 #[.agg f.toArray,.slice i c a,.int .u8 a2,.slice a3 d b] W λe q=>e= .returned (.bool true)/\Below W.heap.size W q:=by
 obtain⟨p,rfl,o⟩:=PR i0;obtain⟨l,rfl,n⟩:=OH i1;obtain⟨nb,rfl,h⟩:=nS r;obtain⟨kl,rfl,m,_,g⟩:=DI i3;exact(tseal_ok (W:=W) (R:=[]) o n h m g).calls.mono λ_ _ ⟨⟨_,_,k⟩,j⟩=>⟨k,j⟩

set_option maxRecDepth 100000 in
theorem lifted(os:Os)(started:os.Started)(H:Type)(enc:TypeId×Value->H):
  ReturnsInHanded {} Tryz.checked os 3 .any (Rows.topSealSpec.pre6 enc Tryz.prog Tryz.f3 Rows.topSealRow.domain false) (Rows.topSealSpec.post enc Tryz.prog Tryz.f3 false true false false):=by
 refine returnsInHanded_of_change_sized (C:=Tryz.checked) own started (by kernel_rfl) Tryz.func3
  (ChangeSpec.witness6 (enc:=enc) (C:=Tryz.checked) false ⟨#[],#[.agg #[.int .u8 0,.int .u8 0,.int .u8 0,.int .u16 0,.bool false,.slice none 0 0],.slice none 0 0,.int .u8 0,.slice none 0 0],[]⟩ 8 (by kernel_rfl) (by kernel_rfl) (by kernel_rfl) (by kernel_rfl)) ?_
 intro W base args ds gs before d hW K z _;have b:∀(j:Nat) t v,Tryz.f3.params[j]?=some t->args[j]?=some v->Value.okWide Tryz.prog W .any base t v:=d;have a:(DataW.weightsEach Tryz.prog (Tryz.f3.params.toList++[]) (ds++gs)).all (·<=reachBytes)=true:=z;have r:=hW;obtain⟨p,q,o,U,rfl,X,Y⟩:=hW;have J:DataW.TrodAll enc Tryz.prog W 0 (λ_=>true) true Tryz.f3.params.toList args.toList ds p:=o;rw[List.append_nil,Tryz.params3]at a;rw[Tryz.params3]at J b;obtain⟨v0,aa,d0,P,Z,q0,y,rfl,rfl,F,r0⟩:=trodAll_cons J;obtain⟨v1,ad,d1,Q,p1,q1,rfl,rfl,rfl,G,r1⟩:=trodAll_cons r0;obtain⟨v2,ag,d2,R,p2,q2,rfl,rfl,rfl,T,r2⟩:=trodAll_cons r1;obtain⟨v3,an,d3,S,p3,q3,rfl,rfl,rfl,I,r3⟩:=trodAll_cons r2;obtain⟨rfl,rfl,rfl⟩:=trodAll_nil r3;obtain rfl:args=#[v0,v1,v2,v3]:=by cases args;simp_all
 obtain⟨rfl,rfl⟩:=trodVars_none U;rw[List.append_nil]at a;obtain⟨l,rfl⟩:=Gh Tryz.underlying25 (b 0 25 v0 rfl rfl);have L:=F;have A:∀x∈Z,x.block<W.heap.size:=by obtain⟨m,c⟩:=L;exact DataW.trod_lt m _ _ _ c
 have i0:jA Tryz.prog W 25 l:=by
  obtain⟨m,c⟩:=F;exact jA.HR m _ _ _ c λn s=>of_decide_eq_true (List.all_eq_true.1 a n (kp (j:=0) (t:=25) rfl rfl s))
 obtain⟨E,i,f,rfl⟩:=okWide_slice Tryz.underlying26 (b 1 26 v1 rfl rfl);have M:=G;have B:∀x∈p1,x.block<W.heap.size:=by obtain⟨m,c⟩:=M;exact DataW.trod_lt m _ _ _ c
 have i1:jA Tryz.prog W 26 [.slice E i f]:=by
  obtain⟨m,c⟩:=G;exact jA.HR m _ _ _ c λn s=>of_decide_eq_true (List.all_eq_true.1 a n (kp (j:=1) (t:=26) rfl rfl s))
 obtain⟨a2,rfl,rfl,rfl,O⟩:=open_int Tryz.underlying5 (b 2 5 v2 rfl rfl) T;obtain⟨a3,k,g,rfl⟩:=okWide_slice Tryz.underlying27 (b 3 27 v3 rfl rfl);have N:=I;have D:∀x∈p3,x.block<W.heap.size:=by obtain⟨m,c⟩:=N;exact DataW.trod_lt m _ _ _ c
 have i3:jA Tryz.prog W 27 [.slice a3 k g]:=by
  obtain⟨m,c⟩:=I;exact jA.HR m _ _ _ c λn s=>of_decide_eq_true (List.all_eq_true.1 a n (kp (j:=3) (t:=27) rfl rfl s))
 clear o d;simp only[List.append_nil]at r;refine(walk W l E i f a2 a3 k g i0 i1 O i3).mono λe W' ⟨V,u⟩=>?_;subst V;exact⟨_,rfl,_,_,_,[],_,[],r,trodAll_mk1 (shut_bool Tryz.underlying4 _),(trodAll_cons_mk (Below.trod laidOut (by kernel_rfl) (of_decide_eq_true (by kernel_rfl)) L u A) (trodAll_cons_mk (Below.trod laidOut (by kernel_rfl) (of_decide_eq_true (by kernel_rfl)) M u B) (trodAll_cons_mk (shut_int Tryz.underlying5 O) (trodAll_cons_mk (Below.trod laidOut (by kernel_rfl) (of_decide_eq_true (by kernel_rfl)) N u D) trodAll_mk0)))),rfl,u.frame _,λh=>by cases h⟩

theorem f1:laidOutB Tryz.prog=true:=laidOut
theorem f2:mapsRowed Tryz.prog=true:=by kernel_rfl
theorem f3:(Rows.topSealRow.inPlace==Tryz.prog.inPlace 3)=true:=by kernel_rfl
theorem f4:(Rows.topSealRow.unfollowed==Tryz.prog.unfollowed 3)=true:=by kernel_rfl
theorem f5:(Rows.topSealRow.recurses==Tryz.prog.recurses 3)=true:=by kernel_rfl
theorem f6:(Rows.topSealRow.named==Tryz.prog.varsNamed 3)=true:=by kernel_rfl
theorem f7:Tryz.prog.stopsHeard=true:=by kernel_rfl
theorem f8:Tryz.prog.mayEnter=true:=by kernel_rfl
theorem f9:Tryz.prog.funcNamed Rows.topSealRow.func=some 3:=by kernel_rfl
theorem closed:joinedFacts Tryz.prog 3 Tryz.f3 Rows.topSealSpec Rows.topSealRow=true:=by
 simp only[joinedFacts,Bool.and_eq_true];exact⟨⟨⟨⟨⟨⟨⟨⟨⟨⟨⟨⟨⟨⟨⟨⟨⟨⟨⟨⟨⟨⟨⟨⟨⟨⟨⟨⟨⟨⟨⟨by kernel_rfl,f1⟩,f2⟩,by kernel_rfl⟩,by kernel_rfl⟩,by kernel_rfl⟩,by kernel_rfl⟩,by kernel_rfl⟩,by kernel_rfl⟩,f3⟩,f4⟩,f5⟩,f6⟩,by kernel_rfl⟩,by kernel_rfl⟩,by kernel_rfl⟩,by kernel_rfl⟩,by kernel_rfl⟩,by kernel_rfl⟩,by kernel_rfl⟩,by kernel_rfl⟩,by kernel_rfl⟩,by kernel_rfl⟩,by kernel_rfl⟩,f7⟩,f8⟩,by kernel_rfl⟩,by kernel_rfl⟩,by kernel_rfl⟩,by kernel_rfl⟩,by kernel_rfl⟩,by kernel_rfl⟩
theorem Ui:Rows.topSealRow.holds Tryz.pinned (OpenSpec.ofChange Rows.topSealSpec):=
 OpenClaim.holds_of_wide 3 Tryz.f3 rfl rfl rfl rfl rfl rfl rfl ⟨rfl,rfl,rfl,rfl,rfl⟩ rfl rfl rfl rfl rfl f9 Tryz.func3 closed
  (of_decide_eq_true (by kernel_rfl)) (by unfold Func.isWrapper;first|(rw[if_pos (by decide+kernel)];kernel_rfl)|(rw[if_neg (by decide+kernel)];exact⟨rfl,rfl⟩))
  (λos started H enc _=>lifted os started H enc)

/-- THE STATEMENT. -/
theorem proved:Rows.TopSealSaid:=
  Ui
#print axioms proved
end Go.Proofs.YtldolcbbmnmjoaaGreat.topSeal

