import Derived.Test.YtldolcbbmnmjoaaGreatM3
import Derived.DeepKeys3
import Derived.WideKeyRuns
set_option maxRecDepth 8000
set_option maxHeartbeats 16000000
set_option linter.unusedVariables false
set_option linter.unusedSimpArgs false
set_option linter.unusedSectionVars false
set_option linter.defProp false
namespace Go.Sl
open Go Go.RowKit Go.MapKept
structure jB(P:Program)(kt:TypeId)(κ:Type)[DecidableEq κ](kv:κ->Value)(aX:κ->Prop):Prop where
  inj:∀a b,kv a=kv b->a=b
  check:∀(w:World)(em:Bool) k,aX k->(Instr.checkKey em 10000 kt (kv k)).run P w= .ok () w
  find:∀(w:World) k,aX k->∀es:List MapEntry,(∀e∈es,∃a,aX a/\e.key=kv a)->
    ((Instr.findKey kt (kv k) es).run P w= .ok none w/\∀e∈es,e.key≠kv k)\/∃j e,(Instr.findKey kt (kv k) es).run P w= .ok (some (j,e.val)) w/\es[j]?=some e/\e.key=kv k
  stays:∀(w:World) k,aX k->(Instr.keyThatStays (kv k) (kv k)).run P w= .ok (kv k) w
abbrev fw(k:Int×Int):Value:= .agg #[.int .i64 k.1,.int .i64 k.2]
def il(k:Int×Int):Prop:=(Lit.int .i64 k.1).wf=true/\(Lit.int .i64 k.2).wf=true
theorem jB.pair{P:Program}{kt:TypeId}(I:wG P kt [some .i64,some .i64]=true)(u:(match P.underlying kt with|some (.array _ _)|some (.struct _)=>true|_=>false)=true):jB P kt (Int×Int) fw il:=by
  have lits:∀k:Int×Int,il k->P.keyLits 2 kt [.int .i64 k.1,.int .i64 k.2]=some [.int .i64 k.1,.int .i64 k.2]/\(fw k).formed P kt=true:=λk o=>
    sY (cs:=[.int .i64 k.1,.int .i64 k.2]) I rfl rfl (by
      intro l O
      simp only[List.mem_cons,TW,or_false]at O
      rcases O with h|h<;>subst h
      · exact o.1
      · exact o.2)
  have A:P.keyTypeAt 2 kt=true:=by simp only[wG,mV]at I;exact I.1.2
  have K:∀(w:World)(a b:Int×Int),il a->il b->(Op.equal kt (fw a) (fw b)).run P w= .ok (decide (a=b)) w:=by
    intro w a b J U;obtain⟨E,a2⟩:=lits a J;obtain⟨R,T⟩:=lits b U;obtain⟨r,V,z⟩:=Go.run_equalIn_deep 9998 2 kt A w 2 2 (fw a) (fw b) _ _ a2 T E R;have M:r=decide (a=b):=by
      rw[Bool.eq_iff_iff,z,decide_eq_true_iff];constructor
      · intro h
        simp only[List.cons.injEq,Lit.int.injEq,true_and,and_true]at h
        exact Prod.ext h.1 h.2
      · intro h;subst h;rfl
    rw[<-M];exact V
  have m:∀(w:World)(k:Int×Int),il k->∀(es:List MapEntry)(i:Nat),(∀e∈es,∃a,il a/\e.key=fw a)->
      ((Instr.findAsking kt (fw k) es i).run P w= .ok none w/\∀e∈es,e.key≠fw k)\/∃j e,(Instr.findAsking kt (fw k) es i).run P w= .ok (some (i+j,e.val)) w/\es[j]?=some e/\e.key=fw k:=by
    intro w k o es;induction es with
    |nil=>intro i _;exact .inl ⟨by simp[Instr.findAsking],λe s=>(by cases s)⟩
    |cons e r X=>
      intro i g;obtain⟨a,J,t⟩:=g e (.head _);have s:=K w k a o J;rw[<-t]at s;by_cases p:k=a
      · rw[ky p]at s
        exact .inr ⟨0,e,by simp[Instr.findAsking,s],rfl,by rw[t,p]⟩
      · rw[gx p]at s
        rcases X (i+1) (λx B=>g x (.tail _ B))with⟨v,y⟩|⟨j,x,v,y,G⟩
        · refine .inl ⟨by simp[Instr.findAsking,s,v],λx B=>?_⟩
          cases B with
          |head=>rw[t];intro q;apply p;simp only[fw,Value.agg.injEq,Array.mk.injEq,List.cons.injEq,Value.int.injEq,true_and,and_true]at q;exact Prod.ext q.1.symm q.2.symm
          |tail _ B=>exact y x B
        · exact .inr ⟨j+1,x,by simp[Instr.findAsking,s,v,ux,BG 1 j],by simpa using y,G⟩
  refine⟨λa b h=>?_,λw em k o=>?_,λw k o es g=>?_,λw k o=>?_⟩
  · simp only[fw,Value.agg.injEq,Array.mk.injEq,List.cons.injEq,Value.int.injEq,true_and,and_true]at h
    exact Prod.ext h.1 h.2
  · obtain⟨E,a2⟩:=lits k o
    exact Go.run_checkKey_deep em 9998 2 kt A w 2 (fw k) _ a2 E
  · rw[Go.run_findKey_eq (w:=w) u]
    rcases m w k o es 0 g with h|⟨j,e,v,y,G⟩
    · exact .inl h
    · exact .inr ⟨j,e,by rw[v,PA],y,G⟩
  · simp[Instr.keyThatStays,Instr.sameBits]
abbrev CX(k:Bool):Value:= .bool k
theorem jB.bool{P:Program}{kt:TypeId}(g:P.underlying kt=some .bool):jB P kt Bool CX (λ_=>True):=by
 refine⟨λa b h=>by simpa using h,λw em k _=>?_,λw k _ es l=>?_,λw k _=>?_⟩
 · exact Go.MapKept.run_checkKey (P:=P) (w:=w) (kt:=kt) (k:= .bool k) g trivial em 9999
 ·
  rcases findNow_spec (d:= .bool) (k:= .bool k) trivial es 0 (λe p=>by obtain⟨a,_,i⟩:=l e p;rw[i];exact trivial)with⟨i,m⟩|⟨j,e,i,m,o⟩
  · exact .inl ⟨Go.MapKept.run_findKey (P:=P) (w:=w) (kt:=kt) g i,m⟩
  · exact .inr ⟨j,e,by rw[Go.MapKept.run_findKey (P:=P) (w:=w) (kt:=kt) g i,PA],m,o⟩
 · simp[Instr.keyThatStays,Instr.sameBits]
section
variable{κ:Type}[DecidableEq κ]{kv:κ->Value}{aX:κ->Prop}
structure oz(kv:κ->Value)(aX:κ->Prop)(es:List MapEntry)(D:List (κ×Value)):Prop where
  perm:List.Perm (es.map λe=>(e.key,e.val)) (D.map λx=>(kv x.1,x.2))
  one:(D.map (·.1)).Nodup
  aX:∀x∈D,aX x.1
def db(kv:κ->Value)(aX:κ->Prop)(b:Nat)(D:List (κ×Value)):ab:=ex λx:Array MapEntry×Nat=>Sl.star [fact (oz kv aX x.1.toList D/\Go.MapKept.Stamped x.1 x.2),At b (.map x.1 x.2)]
theorem db.open{W w:World}{b:Nat}{D:List (κ×Value)}{R:List ab}(a:Holds W (db kv aX b D::R) w):∃es cl,(oz kv aX es.toList D/\Go.MapKept.Stamped es cl)/\Holds W (At b (.map es cl)::R) w:=by
 obtain⟨⟨es,cl⟩,h⟩:=a.gW;have h:=h.join;exact⟨es,cl,h.iX,h.tail⟩
theorem db.shut{W w:World}{b:Nat}{D:List (κ×Value)}{R:List ab}{es:Array MapEntry}{cl:Nat}(a:oz kv aX es.toList D/\Go.MapKept.Stamped es cl)(e:Holds W (At b (.map es cl)::R) w):Holds W (db kv aX b D::R) w:=
 Holds.dU (es,cl) (Holds.nest (L:=[_,_]) (e.gG a))
theorem oz.nil:oz kv aX [] []:=⟨.refl _,List.nodup_nil,λx h=>(by cases h)⟩
def getD(D:List (κ×Value))(k:κ):Option Value:=(D.find? λx=>x.1=k).map (·.2)
def iw(D:List (κ×Value))(k:κ)(v:Value):List (κ×Value):=D.filter (λx=>x.1≠k)++[(k,v)]
def qN(D:List (κ×Value))(k:κ):List (κ×Value):=D.filter λx=>x.1≠k
theorem getD_none{D:List (κ×Value)}{k:κ}(h:∀x∈D,x.1≠k):getD D k=none:=by
 unfold getD;rw[Tm.2 (λx a=>by simpa using h x a)];rfl
theorem getD_some{D:List (κ×Value)}{k:κ}{v:Value}(a:(D.map (·.1)).Nodup)(h:(k,v)∈D):getD D k=some v:=by
  unfold getD;induction D with
  |nil=>cases h
  |cons x r b=>
    rw[BI,List.nodup_cons]at a;by_cases q:x.1=k
    · rw[List.find?_cons_of_pos (by simpa using q)]
      cases h with
      |head=>rfl
      |tail _ h=>exact lcs (q▸List.mem_map_of_mem h:x.1∈r.map (·.1)) a.1
    · rw[List.find?_cons_of_neg (by simpa using q)]
      cases h with
      |head=>exact lcs rfl q
      |tail _ h=>exact b a.2 h
theorem oI{D:List (κ×Value)}{k:κ}(h:∀x∈D,x.1≠k):qN D k=D:=List.filter_eq_self.2 λx a=>by simpa using h x a
theorem nI{α:Type}{l:List α}{i:Nat}{a:α}(h:l[i]?=some a):List.Perm l (a::l.eraseIdx i):=by
 obtain⟨b,rfl⟩:=HE.1 h;rw[List.eraseIdx_eq_take_drop_succ];have:l=l.take i++l[i]::l.drop (i+1):=by rw[<-vE b,QB]
 exact(List.Perm.of_eq this).trans xb
theorem oz.at{P:Program}{kt:TypeId}(K:jB P kt κ kv aX){es:List MapEntry}{D:List (κ×Value)}(h:oz kv aX es D)(w:World)(k:κ)(J:aX k):
    ((Instr.findKey kt (kv k) es).run P w= .ok none w/\getD D k=none/\(∀x∈D,x.1≠k))\/
    ∃j e v,(Instr.findKey kt (kv k) es).run P w= .ok (some (j,v)) w/\getD D k=some v/\es[j]?=some e/\e.key=kv k/\e.val=v/\List.Perm ((es.eraseIdx j).map λe=>(e.key,e.val)) ((qN D k).map λx=>(kv x.1,x.2)):=by
  have l:∀e∈es,∃a,aX a/\e.key=kv a:=by
    intro e u;have:=h.perm.subset (List.mem_map_of_mem u);obtain⟨x,m,b⟩:=fG.1 this;exact⟨x.1,h.aX x m,by have:=JB Prod.fst b;exact this.symm⟩
  rcases K.find w k J es l with⟨p,i⟩|⟨j,e,p,i,s⟩
  · have E:∀x∈D,x.1≠k:=by
      intro x m q;have:=h.perm.symm.subset (List.mem_map_of_mem m);obtain⟨e,u,b⟩:=fG.1 this;exact i e u (by have:=JB Prod.fst b;rw[<-q];exact this)
    exact .inl ⟨p,getD_none E,E⟩
  · have g:(kv k,e.val)∈D.map λx=>(kv x.1,x.2):=by
      have:=h.perm.subset (List.mem_map_of_mem (lay i));rwa [s]at this
    obtain⟨x,m,b⟩:=fG.1 g
    have A:x.1=k:=K.inj _ _ (JB Prod.fst b)
    have B:x.2=e.val:=JB Prod.snd b
    have o:(k,e.val)∈D:=by rw[<-A,<-B];exact m
    refine .inr ⟨j,e,e.val,p,getD_some h.one o,i,s,rfl,?_⟩
    have T:List.Perm (es.map λe=>(e.key,e.val)) ((kv k,e.val)::(es.eraseIdx j).map λe=>(e.key,e.val)):=by
      have:=(nI i).map λe=>(e.key,e.val);rwa [BI,s]at this
    have U:∀(D:List (κ×Value)),(D.map (·.1)).Nodup->(k,e.val)∈D->List.Perm D ((k,e.val)::qN D k):=by
      intro D;induction D with
      |nil=>intro _ h;cases h
      |cons y r R=>
        intro t g;rw[BI,List.nodup_cons]at t;by_cases q:y.1=k
        · have G:∀z∈r,z.1≠k:=λz O V=>t.1 (by rw[q,<-V];exact List.mem_map_of_mem O)
          have M:y=(k,e.val):=by
            cases g with
            |head=>rfl
            |tail _ g=>exact lcs rfl (G _ g)
          have:qN (y::r) k=r:=by
            unfold qN;rw[List.filter_cons_of_neg (by simpa using q)];exact oI G
          rw[this,M]
        · have:qN (y::r) k=y::qN r k:=by unfold qN;rw[List.filter_cons_of_pos (by simpa using q)]
          rw[this]
          cases g with
          |head=>exact lcs rfl q
          |tail _ g=>exact((R t.2 g).cons y).trans (List.Perm.swap _ _ _)
    have I:=(U D h.one o).map λx:κ×Value=>(kv x.1,x.2)
    rw[BI]at I
    exact(T.symm.trans (h.perm.trans I)).cons_inv
theorem Aq{D:List (κ×Value)}(h:(D.map (·.1)).Nodup)(k:κ):((qN D k).map (·.1)).Nodup:=h.sublist ((List.filter_sublist).map _)
theorem oz.put{P:Program}{kt:TypeId}{es g:List MapEntry}{D:List (κ×Value)}(h:oz kv aX es D)(k:κ)(l:aX k)(v:Value)(m:List.Perm (g.map λe=>(e.key,e.val)) ((kv k,v)::(qN D k).map λx=>(kv x.1,x.2))):oz kv aX g (iw D k v):=by
 refine⟨?_,?_,?_⟩
 ·
  unfold iw;rw[jv,List.map_singleton];exact m.trans (List.perm_append_comm (l₁:=[(kv k,v)]))
 ·
  unfold iw;rw[jv,List.map_singleton];refine List.nodup_append.2 ⟨Aq h.one k,by simp,?_⟩;intro a j b i;rw[ju]at i;obtain⟨x,hx,rfl⟩:=fG.1 j;have:=(KO.1 hx).2;rw[i];simpa using this
 ·
  intro x hx;rcases l0.1 hx with hx|hx
  · exact h.aX x (KO.1 hx).1
  · rw[ju]at hx;subst hx;exact l
theorem oz.del{a es:List MapEntry}{D:List (κ×Value)}(h:oz kv aX es D)(k:κ)(b:List.Perm (a.map λe=>(e.key,e.val)) ((qN D k).map λx=>(kv x.1,x.2))):oz kv aX a (qN D k):=
 ⟨b,Aq h.one k,λx g=>h.aX x (KO.1 g).1⟩
end
section
variable{W:World}{P:Program}{n:Nat}{c:Code}{Q:Exit->Act->World->Prop}{H H' L S:List ab}{f F:Fr}{C:ab->List ab}
variable{N:List ab->Fr->Prop}{dst:Option Tmp}{d:Nat}{ty_:TypeId}{pos:String}{after:Array Edge}{guard:Option (Nat×Bool)}
variable{κ:Type}[DecidableEq κ]{kv:κ->Value}{aX:κ->Prop}{D:List (κ×Value)}
theorem ay.lA{t:TypeId}(kv:κ->Value)(aX:κ->Prop)(a:Nat.blt d n=true)(h:∀b,N (db kv aX b []::H) ((d,.map (some b))::f)):
  ay W P n {dst:=some d,op:= .makeMap t none,type:=ty_,pos,after,guard} Q H f N:=by
 refine ay.run a (λi w g e=>⟨w.heap.size,_,?_,db.shut (es:=#[]) (cl:=0) ⟨oz.nil,Go.MapKept.stamped_empty 0⟩ e.oE⟩) h;unfold execOp;simp only[Option.map_none,Sem.run_bind,run_makeMap,Result.andThen_ok,Sem.run_pure]
theorem Holds.HM{b:Nat}{w:World}(h:Holds W H w)(g:db kv aX b D∈H):∃es cl,(oz kv aX es.toList D/\Go.MapKept.Stamped es cl)/\w.heap[b]?=some (.map es cl):=by
 obtain⟨R,p⟩:=ja g;obtain⟨es,cl,a,e⟩:=db.open (h.perm p);exact⟨es,cl,a,(e.at (.head _)).2⟩
theorem Holds.RI{b:Nat}{w:World}(h:Holds W H w)(g:db kv aX b D∈H):∃es cl,oz kv aX es.toList D/\w.heap[b]?=some (.map es cl):=by
 obtain⟨es,cl,a,e⟩:=h.HM g;exact⟨es,cl,a.1,e⟩
theorem af.DR{t kt l:TypeId}{x y:Operand}{b:Nat}{k:κ}{z:Value}(p:P.underlying t=some (.map kt l))(K:jB P kt κ kv aX)(o:aX k)(B:∀w,(zeroValue l).run P w= .ok z w)
  (q:aD f x=some (.map (some b)))(r:aD f y=some (kv k))(s:db kv aX b D∈H):
  af W P n H f {dst,op:= .lookup t x y true,type:=ty_,pos,after,guard} (.tuple #[(getD D k).getD z,.bool (getD D k).isSome]):=by
 unfold af;intro E w g A;obtain⟨es,cl,u,m⟩:=A.RI s;have a:=K.check w es.isEmpty k o;rcases u.at K w k o with⟨h,i,_⟩|⟨j,e,v,h,i,_⟩
 · simp[execOp,Instr.lookup,g.eval q,g.eval r,Sem.run_bind,run_underlying p,Go.MapKept.run_getObj_map m,a,h,B,i]
 · simp[execOp,Instr.lookup,g.eval q,g.eval r,Sem.run_bind,run_underlying p,Go.MapKept.run_getObj_map m,a,h,i]
theorem af.jT{t kt l:TypeId}{x y:Operand}{b:Nat}{k:κ}{z:Value}(p:P.underlying t=some (.map kt l))(K:jB P kt κ kv aX)(o:aX k)(B:∀w,(zeroValue l).run P w= .ok z w)
  (q:aD f x=some (.map (some b)))(r:aD f y=some (kv k))(s:db kv aX b D∈H):
  af W P n H f {dst,op:= .lookup t x y false,type:=ty_,pos,after,guard} ((getD D k).getD z):=by
 unfold af;intro E w g A;obtain⟨es,cl,u,m⟩:=A.RI s;have a:=K.check w es.isEmpty k o;rcases u.at K w k o with⟨h,i,_⟩|⟨j,e,v,h,i,_⟩
 · simp[execOp,Instr.lookup,g.eval q,g.eval r,Sem.run_bind,run_underlying p,Go.MapKept.run_getObj_map m,a,h,B,i]
 · simp[execOp,Instr.lookup,g.eval q,g.eval r,Sem.run_bind,run_underlying p,Go.MapKept.run_getObj_map m,a,h,i]
theorem Holds.vL{w:World}{b:Nat}{D':List (κ×Value)}{es:Array MapEntry}{cl e:Nat}{a:Array MapEntry}(r:Holds W H w)(u:eQ H (db kv aX b D) C)(l:w.heap[b]?=some (.map es cl))(o:oz kv aX a.toList D')(g:Go.MapKept.Stamped a e):
  Holds W (C (db kv aX b D')) {w with heap:=w.heap.setIfInBounds b (.map a e)}:=by
 obtain⟨R,p,q⟩:=u.perm;obtain⟨i,h,_,j⟩:=db.open (r.perm p);obtain⟨s1,s2⟩:=Go.MapKept.heap_set (o':= .map a e) l;exact Holds.perm (q _) (db.shut ⟨o,g⟩ (j.put .head rfl rfl rfl (by simp) (λk m=>s2 k m) s1))
theorem DU{t kt I:TypeId}{b:Nat}{k:κ}{v:Value}(E:P.underlying t=some (.map kt I))(K:jB P kt κ kv aX)(l:aX k)(u:eQ H (db kv aX b D) C){w:World}(z:Holds W H w):
  ∃G,(Instr.mapUpdate t (.map (some b)) (kv k) v).run P w= .ok () G/\Holds W (C (db kv aX b (iw D k v))) G:=by
 obtain⟨R,p,q⟩:=u.perm;obtain⟨es,cl,⟨m,o⟩,g⟩:=(z.perm p).HM (.head _);have h:=K.check w false k l;rcases m.at K w k l with⟨r,J,a⟩|⟨j,e,v0,r,J,a,B,X,M⟩
 ·
  refine⟨{w with heap:=w.heap.setIfInBounds b (.map (es.push ⟨kv k,v,cl⟩) (cl+1))},by simp only[Instr.mapUpdate,Sem.run_bind,run_underlying E,Go.MapKept.run_getObj_map g,h,r,Result.andThen_ok,Go.MapKept.run_setObj_map _ g],z.vL u g (m.put (P:=P) (kt:=kt) k l v ?_) ?_⟩
  ·
   rw[oI a,Array.toList_push,jv,List.map_singleton];exact(List.perm_append_comm (l₂:=[(kv k,v)])).trans (m.perm.cons _)
  ·
   refine Go.MapKept.stamped_push o λx U q=>?_;obtain⟨y,V,A⟩:=fG.1 (m.perm.subset (List.mem_map_of_mem U));exact a y V (K.inj _ _ ((JB Prod.fst A).trans q))
 ·
  have s:(Instr.keyThatStays (((es[j]?).map (·.key)).getD (kv k)) (kv k)).run P w= .ok (kv k) w:=by
   rw[Array.getElem?_toList]at a;simp only[a,B,RD,Option.getD_some];exact K.stays w k l
  refine⟨{w with heap:=w.heap.setIfInBounds b (.map (es.modify j λe=>{e with key:=kv k,val:=v}) cl)},by simp only[Instr.mapUpdate,Sem.run_bind,run_underlying E,Go.MapKept.run_getObj_map g,h,r,s,Result.andThen_ok,Go.MapKept.run_setObj_map _ g],z.vL u g (m.put (P:=P) (kt:=kt) k l v ?_) ?_⟩
  ·
   rw[Array.toList_modify];have T:(es.toList.modify j λe=>{e with key:=kv k,val:=v})[j]?=some {e with key:=kv k,val:=v}:=by
    rw[List.getElem?_modify,a];simp
   have O:(es.toList.modify j λe=>{e with key:=kv k,val:=v}).eraseIdx j=es.toList.eraseIdx j:=by
    rw[List.eraseIdx_modify_of_eq]
   have:=(nI T).map λe=>(e.key,e.val);rw[BI,O]at this;exact this.trans (M.cons _)
  ·
   exact Go.MapKept.stamped_modify o j _ (λ_ _=>rfl) λe' _ i=>by
    rw[Array.getElem?_toList]at a;rw[a]at i;cases i;exact B.symm
theorem ay.qZ{t kt e:TypeId}{x y z:Operand}{b:Nat}{k:κ}{v:Value}(m:P.underlying t=some (.map kt e))(K:jB P kt κ kv aX)(j:aX k)
  (p:aD f x=some (.map (some b)))(q:aD f y=some (kv k))(r:aD f z=some v)(u:eQ H (db kv aX b D) C)(h:N (C (db kv aX b (iw D k v))) f):
  ay W P n {dst:=none,op:= .mapUpdate t x y z,type:=ty_,pos,after,guard} Q H f N:=by
 unfold ay;intro A w a o s i;obtain⟨B,l,g⟩:=DU (v:=v) m K j u o;unfold Oper.wp execOp;simp only[a.eval p,a.eval q,a.eval r,l,Sem.run_bind,Result.andThen_ok,Sem.run_pure];exact i _ _ h _ _ a g
theorem ay.dR{t kt e:TypeId}{x y z:Operand}{b:Nat}{k:κ}{v:Value}(m:P.underlying t=some (.map kt e))(K:jB P kt κ kv aX)(j:aX k)
  (p:aD f x=some (.map (some b)))(q:aD f y=some (kv k))(r:aD f z=some v)(u:eQ H (db kv aX b D) C)(h:N (C (db kv aX b (iw D k v))) f):
  ay W P n {dst:=none,op:= .insert t x y z,type:=ty_,pos,after,guard} Q H f N:=by
 unfold ay;intro A w a o s i;obtain⟨B,l,g⟩:=DU (v:=v) m K j u o;unfold Oper.wp execOp;simp only[a.eval p,a.eval q,a.eval r,l,Sem.run_bind,Result.andThen_ok,Sem.run_pure];exact i _ _ h _ _ a g
theorem ay.OZ{t kt J v:TypeId}{x y:Operand}{b:Nat}{k:κ}(E:P.underlying t=some (.map kt J))(K:jB P kt κ kv aX)(B:aX k)
  (G:aD f x=some (.map (some b)))(I:aD f y=some (kv k))(u:eQ H (db kv aX b D) C)(h:N (C (db kv aX b (qN D k))) f):
  ay W P n {dst:=none,op:= .call {callee:= .builtin .delete,args:=#[x,y],argTypes:=#[t,v]},type:=ty_,pos,after,guard} Q H f N:=by
 unfold ay;intro Y w g s U A;obtain⟨R,p,q⟩:=u.perm;obtain⟨es,cl,⟨m,l⟩,a⟩:=(s.perm p).HM (.head _);have i:=K.check w es.isEmpty k B;unfold Oper.wp execOp;rcases m.at K w k B with⟨o,M,z⟩|⟨j,e,v0,o,M,z,V,X,O⟩
 ·
  have r:(Builtin.delete_ #[t,v] ty_ #[.map (some b),kv k]).run P w= .ok (.tuple #[]) {w with heap:=w.heap.setIfInBounds b (.map es cl)}:=by
   simp[Builtin.delete_,Sem.run_bind,run_underlying E,Go.MapKept.run_getObj_map a,i,o,Go.MapKept.run_setObj_map _ a]
  simp only[resolve,invoke,builtin,Sem.run_bind,Sem.run_pure,Result.andThen_ok,List.map_toArray,BI,HG,g.eval G,g.eval I,r];refine A _ _ h _ _ g (s.vL u a (m.del k ?_) l);rw[oI z];exact m.perm
 ·
  have r:(Builtin.delete_ #[t,v] ty_ #[.map (some b),kv k]).run P w= .ok (.tuple #[]) {w with heap:=w.heap.setIfInBounds b (.map (es.eraseIdxIfInBounds j) cl)}:=by
   simp[Builtin.delete_,Sem.run_bind,run_underlying E,Go.MapKept.run_getObj_map a,i,o,Go.MapKept.run_setObj_map _ a]
  simp only[resolve,invoke,builtin,Sem.run_bind,Sem.run_pure,Result.andThen_ok,List.map_toArray,BI,HG,g.eval G,g.eval I,r];refine A _ _ h _ _ g (s.vL u a (m.del k ?_) (Go.MapKept.stamped_erase l j));have:(es.eraseIdxIfInBounds j).toList=es.toList.eraseIdx j:=by
   simp[Array.eraseIdxIfInBounds];split
   · simp
   ·
    rename_i T;rw[List.eraseIdx_of_length_le (by simpa using T)]
  rw[this];exact O
theorem af.kV{t:TypeId}{x:Operand}{v:Value}{a:TypeDesc}(g:P.underlying t=some a)(e:∀ms,a≠.interface ms)(h:aD f x=some v):
  af W P n H f {dst,op:= .makeInterface t x,type:=ty_,pos,after,guard} (.iface t v):=by
 unfold af;intro j w b i;cases a<;>first|exact lcs rfl (e _)|simp[execOp,Instr.makeInterface,b.eval h,Sem.run_bind,run_underlying g]
theorem af.uh{x:Operand}{i t:TypeId}{v:Value}{a:TypeDesc}(g:P.underlying t=some a)(e:∀ms,a≠.interface ms)(h:aD f x=some (.iface t v)):
  af W P n H f {dst,op:= .typeAssert x i t false,type:=ty_,pos,after,guard} v:=by
 unfold af;intro k w b j;cases a<;>first|exact lcs rfl (e _)|simp[execOp,Instr.typeAssert,b.eval h,Sem.run_bind,run_underlying g]
theorem ay.invoke{x:Operand}{name:String}{xs:Array Operand}{ats:Array TypeId}{g:FuncId}{t:TypeId}{v recv:Value}{vs:List Value}{β:Type}{A:β->Prop}{r:β->Value}{G:β->List ab}
  (E:aD f x=some (.iface t v))(s:jo f xs.toList=some vs)(u:∀w,Holds W H w->(callMethod (.iface t v) name vs.toArray).run P w= .ok (.enter g (recv::vs).toArray) w)(spec:aq W P g (recv::vs) L A r G)
  (q:ae W H L)(z:Nat.blt d n=true)(h:∀y,A y->N (G y) ((d,r y)::f)):
  ay W P n {dst:=some d,op:= .call {callee:= .invoke x name,args:=xs,argTypes:=ats},type:=ty_,pos,after,guard} Q H f N:=by
 unfold ay;intro I w j k K p;have a:xs.map (Act.eval ⟨I,[]⟩)=vs.toArray:=by
  have:=j.args s;apply Array.ext';simpa using this
 unfold aq at spec;have B:=spec w (q w k);have b:=u w k;have i:(#[Value.iface t v]++vs.toArray).extract 1 (#[Value.iface t v]++vs.toArray).size=vs.toArray:=by
  apply Array.ext';simp
 unfold Oper.wp execOp;simp only[resolve,j.eval E,a,Go.invoke,Sem.run_bind,Sem.run_pure,Result.andThen_ok];have l:(#[Value.iface t v]++vs.toArray)[0]?=some (Value.iface t v):=by simp
 simp only[l,i,b,Oper.upon];refine Calls.mono B ?_;rintro e J ⟨y,m,rfl,o⟩;exact p _ _ (h y m) _ _ (j.put z) o
end
attribute [irreducible] db
end Go.Sl
namespace Go.Sl
open Go Go.RowKit Go.MapKept
abbrev cz(k:Int):Value:= .int .i64 k
abbrev eK(k:Int):Prop:=(Lit.int .i64 k).wf=true
theorem jB.i64{P:Program}{kt:TypeId}(c:P.underlying kt=some (.int .i64)):jB P kt Int cz eK:=by
 refine⟨λa b h=>by injection h,λw em k _=>?_,λw k _ es g=>?_,λw k _=>?_⟩
 · exact Go.MapKept.run_checkKey (P:=P) (w:=w) (kt:=kt) (k:=cz k) c rfl em 9999
 ·
  rcases findNow_spec (d:= .int .i64) (k:=cz k) rfl es 0 (λe m=>by obtain⟨a,_,f⟩:=g e m;rw[f];rfl)with⟨f,i⟩|⟨j,e,f,i,l⟩
  · exact .inl ⟨Go.MapKept.run_findKey (P:=P) (w:=w) (kt:=kt) c f,i⟩
  · exact .inr ⟨j,e,by rw[Go.MapKept.run_findKey (P:=P) (w:=w) (kt:=kt) c f,PA],i,l⟩
 · simp[Instr.keyThatStays,Instr.sameBits]
section
variable{W w w':World}{H:List ab}
theorem Holds.RM{e:TypeId}{sz n:Nat}{v:Value}{xs:List Value}(d:Holds W H w)(a:Below w.heap.size w w')(f:w'.ownsRow w.heap.size e sz v n xs):Holds W (Own e sz v n xs::H) w':=by
 obtain⟨c,h⟩:=f;rcases h with⟨rfl,rfl⟩|⟨g,cap,cur,rfl,i,j,m,l,p,r⟩
 ·
  obtain rfl:xs=[]:=te.1 (by simpa using c);exact(d.new w' (fact True) (λ_=>none) trivial a.os a.tape a.output a.size a.block (λ_ _ h=>by cases h)).tail.aZ e sz
 ·
  have b:xs++cur.toList.drop (n*sz)=cur.toList:=by rw[<-r,QB]
  refine d.new w' _ (λk=>if k=g then some (.cells cur e)else none) ⟨c,.inr ⟨g,cap,cur.toList.drop (n*sz),rfl,m,l,by rw[b,Array.length_toList,p],?_⟩⟩ a.os a.tape a.output a.size a.block (λk o h=>?_)
  ·
   show(if g=g then _ else _)=_;rw[lam rfl,b]
  ·
   split at h
   · rename_i q;cases h;exact⟨q▸j,q▸i⟩
   · cases h
end
end Go.Sl
namespace Go.Proofs.YtldolcbbmnmjoaaGreat
open Go.RowKit Go.Sl Go.Shelf Go.Maps
attribute [local irreducible] Sl.Own
abbrev ey(l:List Int):List Int:=l.mergeSort λx y=>decide (x<=y)
theorem Nz(m:Nat):AnyZI.SortsIn Tryz.prog uL Fence.wide m:=
 ⟨λc off cap e W d a b=>callsIn_wide.2 (AnyM.slices_Sort_int QO c off cap e W d a b),λp cap W=>callsIn_wide.2 (AnyM.slices_Sort_int_none QO p cap W)⟩
abbrev QZ(_:Value):Option (DataW Unit×List MemPlace):=some (.lit (.bool true),[])
theorem PF{W w:World}{H:List ab}{b:Nat}{D:List (Int×Value)}(v:Sl.Holds W H w)(t:db cz eK b D∈H)(o:D.length<=1000000):
  ∃i,w.ownsMap Tryz.prog 3 QZ b D.length i/\Maps.size i=D.length/\(intKeys i).Perm (D.map (·.1)):=by
 obtain⟨es,cl,⟨g,l⟩,s⟩:=v.HM t;have u:Tryz.prog.underlying 3=some (.int .i64):=by kernel_rfl
 have m:es.size=D.length:=by have:=g.perm.length_eq;simpa using this
 have d:∀x∈es.toList,∃k,x.key=cz k/\eK k:=λx c=>by
  obtain⟨y,z,n⟩:=fG.1 (g.perm.subset (List.mem_map_of_mem c));exact⟨y.1,(JB Prod.fst n).symm,g.aX y z⟩
 have e:∀x∈es.toList,∃k,x.key=cz k/\WideElems.rd Tryz.prog 3 QZ x=some (.int .i64 k,.lit (.bool true)):=λx c=>by
  obtain⟨k,f,j⟩:=d x c;obtain⟨key,val,born⟩:=x;dsimp only at f;subst f;exact⟨k,rfl,WideElems.rd_mk (yv:=(.lit (.bool true),[])) (keyOf_int_mk u j) rfl⟩
 refine⟨_,⟨es,cl,s,⟨by simp only[maxLen];omega,l,λx c=>?_⟩,by omega,rfl⟩,?_,?_⟩
 · obtain⟨k,_,h⟩:=e x c;exact⟨_,h⟩
 ·
  show List.length _=_;rw[length_sorted,ew,Array.length_toList,m]
 ·
  show((List.foldr DataW.insert [] _).map λp=>Go.intOf p.1).Perm _;refine((Go.WideShapes.sorted_perm _).map _).trans ?_;rw[FZ];have r:es.toList.map ((λp:Lit×DataW Unit=>Go.intOf p.1) ∘ WideElems.rg Tryz.prog 3 QZ)=es.toList.map λx=>Go.intOf (match x.key with| .int q a=>.int q a|_=>.bool true):=Mx λx c=>by
   obtain⟨k,f,j⟩:=e x c;show Go.intOf (WideElems.rg _ _ _ x).1=_;rw[WideElems.rg_of j,f]
  rw[r];have:=g.perm.map λp:Value×Value=>Go.intOf (match p.1 with| .int q a=>.int q a|_=>.bool true);rw[FZ,FZ]at this;exact this
theorem QA{W:World}{H:List ab}{ρ:Ren}(b:SlLaysZI.n7 Tryz.prog ρ)(a:Option Nat):
  aq W Tryz.prog (ρ.f 7) [.map a] H (β:=Nat) (λ_=>True) (λc=>.func (.func (ρ.f 10)) #[] #[ip c]) (λc=>Row c (ρ.t 23) [.map a]::H):=by
 unfold aq;intro w d;refine(callsIn_wide.1 (AnyZI.keys_in b Fence.wide 5 trivial rfl a w)).mono ?_;rintro e w' ⟨rfl,rfl⟩;exact⟨w.heap.size,trivial,rfl,d.alloc⟩
theorem H8{W:World}{H:List ab}{ρ:Ren}{b c:Nat}{t:TypeId}{D:List (Int×Value)}(B:SlLaysZI.n10 Tryz.prog ρ)(G:ρ.t 26=3)(n:∀args w,(callFunc (ρ.f 10) args).run Tryz.prog w= .ok (.enter (ρ.f 10) args) w)(C:db cz eK b D∈H)(q:Row c t [.map (some b)]∈H)(f:D.length<=1000000):
  aq W Tryz.prog 244 [.func (.func (ρ.f 10)) #[] #[ip c]] H (β:=Option Addr×Nat) (λ_=>True) (λx=>.slice x.1 D.length x.2) (λx=>Sl.Own 3 1 (.slice x.1 D.length x.2) D.length ((ey (D.map (·.1))).map cz)::H):=by
 unfold aq;intro w k;obtain⟨j,h,F,E⟩:=PF k C f;have m:=(k.at q).2
 have i:SeqGives Fence.wide 2 Tryz.prog (ρ.f 10) #[ip c] encZ (λl=>l.Perm (intKeys j)) (Maps.size j) w:=
  AnyZI.keys_gives B Fence.wide _ trivial rfl zO c b D.length j w (Array.getElem?_eq_some_iff.1 m).1 (k.cell (off:=0) q rfl) (G▸h)
 have s:=AnyZI.sorted_in P5 Fence.wide 5 trivial trivial trivial trivial rfl zO (Nz _) (enters_of Tryz.func289 (by kernel_rfl) rfl) (ρ.f 10) #[ip c] trivial n _ (Maps.size j) (by simp only[maxLen];omega) zO w i;refine(callsIn_wide.1 s).mono ?_;rintro e w' ⟨v,l,rfl,z,d,r,A⟩;have a:=z.trans E;have o:l.length=D.length:=by rw[a.length_eq,ew]
 have p:(l.mergeSort λx y=>decide (x<=y))=ey (D.map (·.1)):=mergeSort_of_perm_i a;rw[p,o]at d;obtain⟨ao,cap,I⟩:∃ao cap,v= .slice ao D.length cap:=by
  rcases d.2 with⟨rfl,u⟩|⟨g,cap,_,rfl,_⟩
  · exact⟨none,0,by rw[u]⟩
  · exact⟨_,cap,rfl⟩
 subst I;exact⟨(ao,cap),trivial,rfl,k.RM A d⟩
theorem Ud:SlLaysZI.n10 Tryz.prog Ae:={Qy with}
theorem Ue:SlLaysZI.n10 Tryz.prog Af:={Qz with}
theorem Py{W:World}{H:List ab}(a:Option Nat):aq W Tryz.prog 245 [.map a] H (β:=Nat) (λ_=>True) (λc=>.func (.func 290) #[] #[ip c]) (λc=>Row c 336 [.map a]::H):=QA Qy a
theorem Px{W:World}{H:List ab}(a:Option Nat):aq W Tryz.prog 246 [.map a] H (β:=Nat) (λ_=>True) (λc=>.func (.func 291) #[] #[ip c]) (λc=>Row c 337 [.map a]::H):=QA Qz a
theorem Km{W:World}{H:List ab}{b c:Nat}{t:TypeId}{D:List (Int×Value)}(e:db cz eK b D∈H)(d:Row c t [.map (some b)]∈H)(a:D.length<=1000000):
  aq W Tryz.prog 244 [.func (.func 290) #[] #[ip c]] H (β:=Option Addr×Nat) (λ_=>True) (λx=>.slice x.1 D.length x.2) (λx=>Sl.Own 3 1 (.slice x.1 D.length x.2) D.length ((ey (D.map (·.1))).map cz)::H):=H8 Ud rfl (enters_of Tryz.func290 (by kernel_rfl) rfl) e d a
theorem Kl{W:World}{H:List ab}{b c:Nat}{t:TypeId}{D:List (Int×Value)}(e:db cz eK b D∈H)(d:Row c t [.map (some b)]∈H)(a:D.length<=1000000):
  aq W Tryz.prog 244 [.func (.func 291) #[] #[ip c]] H (β:=Option Addr×Nat) (λ_=>True) (λx=>.slice x.1 D.length x.2) (λx=>Sl.Own 3 1 (.slice x.1 D.length x.2) D.length ((ey (D.map (·.1))).map cz)::H):=H8 Ue rfl (enters_of Tryz.func291 (by kernel_rfl) rfl) e d a
end Go.Proofs.YtldolcbbmnmjoaaGreat
