import Derived.Test.YtbdcmpknicjopaaGreatTp4
namespace Go.Proofs.YtbdcmpknicjopaaGreat
set_option linter.all false
open Go.RowKit
variable{B n:Nat}{E:List PanicEntry->AA->ah->Prop}{F5:List Oper}{LU:Array Oper}{Lc rs:List Nat}{P:Program}{Q Q':Exit->AA->ah->Prop}{R:AA->ah->Prop}{S S' S1:ah}{U aE α1:AA}{V:List (Nat×Nat)}{W:List (Nat×Option Ob)}{Y:World}{c:Code}{ch:List PanicEntry}{dr:Bool}{ex:Exit}{f:Nat->AV}{o:Oper}{q:nV}{r:AV}{x:QO}
variable{i:Nat}
structure Dt where F:List (Nat×Ob)W:List (Nat×Option Ob)m:Bool
def Dt.none_:Dt:=⟨[],[],false⟩
def iC(T:ah)(F:List (Nat×Ob)):Prop:=∀p∈F,T.get p.1=some p.2
def eE(G:Nat->Option Ob):List (Nat×Option Ob)->Nat->Option Ob|[]=>G|p::W=>bJ (eE G W) p.1 p.2
def Jk:List (Nat×Option Ob)->Bool->Nat|_::_::_::_,true=>16|_,true=>1|_,false=>0
theorem yK:Jk W false=0:=by grind[Jk]
def eX(T:ah)(W:List (Nat×Option Ob))(m:Bool):ah:=match T,m with|⟨G,x⟩,true=>⟨eE G W,x+Jk W true⟩|⟨G,x⟩,false=>⟨eE G W,x⟩
theorem gK{T:ah}{m:Bool}:eX T W m=⟨eE T.get W,T.nx+Jk W m⟩:=by cases T;cases m;rw[yK];rfl;rfl
def HV(l m:List Nat):Bool:=l.all λx=>m.all λy=>!Nat.beq x y
theorem JK{l m:List Nat}(h:HV l m=true){x y:Nat}(a:x∈l)(b:y∈m):x≠y:=by intro e;subst e;have:=aZ_.1 (aZ_.1 h x a) x b;rw[bE_]at this;cases this
def dj(x y:List Nat×List Nat×Bool):Bool:=HV x.2.1 y.1&&HV x.2.1 y.2.1&&HV x.1 y.2.1 &&!(x.2.2&&y.2.2)
def Dt.ns(d:Dt):List Nat×List Nat×Bool:=(d.F.map (·.1),d.W.map (·.1),d.m)
theorem pU{G:Nat->Option Ob}:∀{W:List (Nat×Option Ob)}{k:Nat},k∉W.map (·.1)->eE G W k=G k|[],_,_=>rfl|p::W,k,h=>by simp only[aH_,al_,not_or]at h;rw[eE,aN _ _ h.1,pU h.2]
theorem Z6{G:Nat->Option Ob}{V:List (Nat×Option Ob)}(h:∀x∈W.map (·.1),∀y∈V.map (·.1),x≠y):eE (eE G W) V=eE (eE G V) W:=by
 have key:∀{G a:Nat->Option Ob}{W:List (Nat×Option Ob)}{k:Nat},k∈W.map (·.1)->eE G W k=eE a W k:=by intro G a W k;induction W with|nil=>intro h;cases h|cons p W b =>intro h;by_cases e:k=p.1;subst e;rw[eE,eE,aG,aG];rw[eE,eE,aN _ _ e,aN _ _ e];exact b ((al_.1 h).resolve_left e)
 funext k;by_cases c:k∈V.map (·.1);grind[pU];grind[pU]
section
variable{zzD:Nat->Dt}
def sI:Op->Bool|.buildSlice ..=>false|o=>qf o
theorem B4{o:Op}(h:qf o=false):sI o=false:=by cases o<;>first|rfl|exact h
def xq(P:Program)(Y:World)(n:Nat)(LU:Array Oper)(B:Nat)(i:Nat)(d:Dt)(U:AA)(S:ah)(α1:AA)(S1:ah):Prop :=∃o,LU[i]?=some o/\(match o.dst with|some d=>Nat.blt d n|none=>true)=true/\(sI o.op=true->d=.none_)/\B<=S.nx/\iC S d.F/\S1=eX S d.W d.m /\((∃(j:Nat) (a:Bool) (b:Option Bool),o.guard=some (j,a)/\wU LU U j=some b/\b≠some a/\α1=U.put o.dst (.v undef)/\d=.none_) \/(o.guard=none\/∃j a,o.guard=some (j,a)/\wU LU U j=some (some a))/\∃r,α1=U.put o.dst r/\∀T,B<=T.nx->iC T d.F->(d.m=true->T.nx=S.nx)->jO P Y n o (U.only (dS o)) T r (eX T d.W d.m))
theorem lM:eX S [] false=S:=by cases S;rfl
theorem xq.shape{d:Dt}(h:xq P Y n LU B i d U S α1 S1):∃o a,LU[i]?=some o/\α1=U.put o.dst a/\iC S d.F/\S1=eX S d.W d.m/\B<=S.nx:=by let⟨o,e,_,_,f,g,k,h⟩:=h;rcases h with⟨j,l,b,c,m,p,rfl,_⟩|⟨c,r,rfl,_⟩;grind;grind
theorem xq.anyS{d:Dt}{T:ah}(h:xq P Y n LU B i d U S α1 S1)(a:B<=T.nx)(b:iC T d.F)(g:d.m=true->T.nx=S.nx):xq P Y n LU B i d U T α1 (eX T d.W d.m):=by let⟨o,c,e,f,_,j,k,h⟩:=h;refine⟨o,c,e,f,a,b,rfl,?_⟩;rcases h with h|⟨l,r,m,p⟩;grind;grind
theorem xq.frame{m:Dt}{d:Option Tmp}{a:AV}(h:xq P Y n LU B i m U S α1 S1)(k:∀o,LU[i]?=some o->∀e,d=some e->e∉o.looksAt LU/\o.dst≠some e):xq P Y n LU B i m (U.put d a) S (α1.put d a) S1:=by
 let⟨o,f,q,s,u,v,w,h⟩:=h;have E:∀e,d=some e->e∉dS o:=λe l y=>(k o f e l).1 (Ba y);have F:∀j g,o.guard=some (j,g)->∀e,d=some e->LU[j]?.bind (·.dst)≠some e:=by intro j g c e l p;refine(k o f e l).1 (aN_.2 (.inr ?_));rw[c];simp only;rw[p];simp
 have z:∀x,(U.put o.dst x).put d a=(U.put d a).put o.dst x:=λx=>(put_comm λt A e=>(k o f t A).2 e).symm;refine⟨o,f,q,s,u,v,w,?_⟩;rcases h with⟨j,g,b,c,C,G,rfl,J⟩|⟨c,r,rfl,p⟩;grind[xw];refine .inr ⟨?_,r,z _,by grind[D4]⟩;rcases c with c|⟨j,g,c,C⟩;grind;grind[xw]
theorem xq.swap{j:Nat}{g f:Dt}{w A:Oper}{K:AA}{L:ah}(hi:LU[i]?=some w)(hj:LU[j]?=some A)(oG:w.apart LU A=true)(M:dj g.ns f.ns=true)(h:xq P Y n LU B i g U S α1 S1)(k:xq P Y n LU B j f α1 S1 K L):∃N Q,xq P Y n LU B j f U S N Q/\xq P Y n LU B i g N Q K L:=by
 let⟨R,e2,e3⟩:=Oper.apart_spec oG;obtain⟨l,a,lW,rfl,pI,rfl,C⟩:=h.shape;obtain rfl:l=w:=X;obtain⟨t,b,nw,rfl,Yi,rfl,hBj⟩:=k.shape;obtain rfl:t=A:=X;simp only[dj,Dt.ns,au_,cg_,ds_]at M;let⟨⟨⟨d1,d2⟩,d3⟩,d4⟩:=M;have MQ:iC S f.F:=λp m=>by have:=Yi p m;rw[gK]at this;rw[<-this];exact(pU λv=>JK d1 v (aD_.2 ⟨p,m,rfl⟩) rfl).symm
 have E:iC (eX S f.W f.m) g.F:=λp m=>by rw[<-pI p m,gK];exact pU λv=>JK d3 (aD_.2 ⟨p,m,rfl⟩) v rfl
 have F:eX (eX S f.W f.m) g.W g.m=eX (eX S g.W g.m) f.W f.m:=by grind[gK,Z6,JK]
 have kj:xq P Y n LU B j f U S (U.put t.dst b) (eX S f.W f.m):=by
  let⟨o,T,hn,m,q0,q1,q2,hk⟩:=k;obtain rfl:o=t:=X;have h1:∀e,l.dst=some e->e∉dS o:=λe u v=>R e u (Ba v);have h2:∀q G,o.guard=some (q,G)->∀e,l.dst=some e->LU[q]?.bind (·.dst)≠some e:=by intro q G J e u s;refine R e u (aN_.2 (.inr ?_));rw[J];simp only;rw[s];simp
  have inj:∀x y:AV,(U.put l.dst a).put o.dst x=(U.put l.dst a).put o.dst y->U.put o.dst x=U.put o.dst y:=by intro x y V;cases zB:o.dst with|none=>rfl|some d =>
    rw[zB]at V;have:x=y:=by have s:=congrArg (λz:AA=>z.tm d) V;simpa[AA.put,aG] using s
    rw[this]
  refine⟨o,T,hn,m,C,MQ,rfl,?_⟩;rcases hk with⟨q,G,c,J,hy,dh,s,h4⟩|⟨J,r,s,h4⟩;grind[xw];grind[D4,xw,gK,yK]
 have W:=(h.anyS (by grind[gK]) E λe=>by grind[gK,yK]).frame (d:=t.dst) (a:=b) λo T e u=>by obtain rfl:o=l:=X;exact⟨e3 e u,λs=>e2 e s u⟩
 rw[F,show(U.put l.dst a).put t.dst b=(U.put l.dst a).put t.dst b from rfl]at W;exact⟨_,_,kj,W⟩
inductive mN(P:Program)(Y:World)(n:Nat)(LU:Array Oper)(B:Nat)(zzD:Nat->Dt):List Nat->AA->ah->AA->ah->Prop where|nil (U:AA) (S:ah):mN P Y n LU B zzD [] U S U S|cons {i:Nat}{F5:List Nat}{U α1 aE:AA}{S S1 S':ah}(h:xq P Y n LU B i (zzD i) U S α1 S1) (t:mN P Y n LU B zzD F5 α1 S1 aE S'):mN P Y n LU B zzD (i::F5) U S aE S'
def okD(LU:Array Oper)(zzD:Nat->Dt)(i j:Nat):Prop:=∃a b,LU[i]?=some a/\LU[j]?=some b/\a.apart LU b=true/\dj (zzD i).ns (zzD j).ns=true
theorem mN.front{j:Nat}:∀{a b:List Nat}{U aE:AA}{S S':ah},(∀x∈a,okD LU zzD x j)->mN P Y n LU B zzD (a++j::b) U S aE S'->mN P Y n LU B zzD (j::(a++b)) U S aE S'|[],b,U,aE,S,S',_,h=>h|x::a,b,U,aE,S,S',c,h=>by cases h with|@cons _ _ _ α1 _ _ S1 _ h t =>have d:=mN.front (λy o=>c y X) t;cases d with|@cons _ _ _ p _ _ q _ k t2 =>let⟨r,s,e,f,g,i⟩:=c x aB;let⟨u,v,l,m⟩:=h.swap e f g i k;exact .cons l (.cons m t2)
theorem mN.perm:∀{L C:List Nat}{U aE:AA}{S S':ah},C.Pairwise (·< ·)->L.Pairwise (λy x=>x<y->okD LU zzD x y)->(∀x,x∈L↔x∈C)->L.Nodup->mN P Y n LU B zzD C U S aE S'->mN P Y n LU B zzD L U S aE S'
 |[],C,U,aE,S,S',_,_,c,_,h=>by
  have:C=[]:=by cases C with|nil=>rfl|cons x C=>have:=(c x).2 aB;cases this
  subst this;exact h|y::L,C,U,aE,S,S',f,d,c,g,h=>by obtain⟨i,j,rfl⟩:=List.append_of_mem ((c y).1 aB);rw[ch_]at d;rw[bQ_]at g;rw[cR_,ch_]at f;let⟨m,⟨o,p⟩,k⟩:=f;have q:∀x∈i,x<y:=λx e=>k x e y aB;have v:∀x∈j,y<x:=o;have l:∀x,x∈L↔x∈i++j:=X;have r:=mN.front (λx e=>d.1 x ((l x).2 X) (q x e)) h;cases r with|cons s t =>refine .cons s (mN.perm (L:=L) ?_ d.2 l g.2 t);rw[cR_];exact⟨m,p,λa u b w=>k a u b X⟩
theorem mN.Ry:∀{L:List Nat}{U aE:AA}{S S':ah},mN P Y n LU B zzD L U S aE S'->BO P Y n LU L U S aE S'
 |[],_,_,_,_,.nil U S=>λF m A g a w Q d l c p=>p a w g l c (Ext.refl ..)|i::F5,U,aE,S,S',.cons (α1:=α1) (S1:=S1) h t=>by
  have u:=mN.Ry t;let⟨o,x,y,hp,G,J,z,h⟩:=h;rcases h with⟨j,K,b,k,q,M,rfl,N⟩|⟨k,r,rfl,s⟩;have e:S1=S:=by rw[z,N];exact lM
  subst e;intro F m A g a w Q d l c p;have R:¬Region.wanted o (yielded LU a.tmps)=true:=by simp[Region.wanted,k,Ac c q,M]
  simp only[wpOpsIn,x];rw[if_neg R];exact⟨λf _=>d.1 f,u F m A g _ w Q d l (r8 c y .v) p⟩;intro F m A g a w Q d l c p;have T:Region.wanted o (yielded LU a.tmps)=true:=by rcases k with k|⟨j,K,k,q⟩;simp[Region.wanted,k];simp[Region.wanted,k,Ac c q]
  simp only[wpOpsIn,x];rw[if_pos T];have C:=s S G J λ_=>rfl;rw[<-z]at C;refine⟨λf _=>d.1 f,C F m A g a w _ Q d l (c.only _) λv V W hr lu E=>?_⟩;exact u F m A W _ V Q d lu (r8 (c.later E.toLater) y hr) λa' qk GD h1 h2 s=>p a' qk GD h1 h2 (E.trans s)
def HW(LU:Array Oper)(m:List Nat):Nat->List (Nat×Nat)|0=>[]|y+1=>((List.range y).filter λx=>!(m.getD y 0).testBit x).map (λx=>(x,y))++HW LU m y
def Js(LU:Array Oper)(i:Nat):Bool:=match LU[i]? with|some o=>sI o.op|none=>true
def apB(LU:Array Oper)(x y:Nat):Bool:=match LU[x]?,LU[y]? with|some a,some b=>a.apart LU b|_,_=>false
def aft(LU:Array Oper):List (Nat×Nat):=HW LU (beforeL [] LU.toList) LU.size
def KW(LU:Array Oper):List (Nat×Nat):=(aft LU).filter λp=>!Js LU p.1 &&!Js LU p.2
def HN(LU:Array Oper):Bool:=uD 0 LU.toList&&(aft LU).all λp=>apB LU p.1 p.2
theorem NR{m:List Nat}:∀{k x y:Nat},y<k->x<y->(m.getD y 0).testBit x=false->(x,y)∈HW LU m k|0,x,y,h,_,_=>Z|k+1,x,y,h,a,b=>by simp only[HW,aN_];by_cases c:y=k;grind;exact .inr (NR Z a b)
theorem Z7{y:List Nat×List Nat×Bool}:dj Dt.none_.ns y=true:=by simp[dj,Dt.none_,Dt.ns,HV]
theorem Z8{x:List Nat×List Nat×Bool}:dj x Dt.none_.ns=true:=by simp[dj,Dt.none_,Dt.ns,HV]
theorem mN.dat:∀{L:List Nat}{U aE:AA}{S S':ah},mN P Y n LU B zzD L U S aE S'->∀i∈L,Js LU i=true->zzD i=.none_|_,_,_,_,_,.nil ..,i,a,_=>X|_,_,_,_,_,.cons h t,i,a,b=>by rcases al_.1 a with rfl|a;let⟨o,c,_,d,_⟩:=h;simp only[Js,c]at b;exact d b;exact mN.dat t i a b
theorem ep.aqg{rd:Bool}{id:Nat}(u:P.follows .mixedOrders=true)(q:HN LU=true)(v:∀p∈KW LU,dj (zzD p.1).ns (zzD p.2).ns=true)(h:mN P Y n LU B zzD (List.range LU.size) U S aE S'):ep P Y rd n (.region id LU true) U S .normal aE S':=by
 intro F m A g a w z hR C E;simp only[HN,au_]at q;let⟨G,J⟩:=q;refine wpIn_region_draw λt=>?_;simp only[Region.schedule,u,cy_,if_true];have K:HT LU (Array.replicate LU.size false):=⟨aB,λy x b=>by simp only[be_,cT_]at b;split at b<;>simp at b⟩;let⟨f1,f2,f3,f4⟩:=Bo G LU.size t _ K;have e:∀x,x∈Region.linearise .any LU t↔x∈List.range LU.size:=by
  intro x;refine⟨λd=>by simpa using(f1 x d).1,λd=>?_⟩;have d:x<LU.size:=X;by_cases c:x∈Region.linearise .any LU t;grind;exfalso;have L:=f4 ⟨x,d,by simp[be_,cT_,d],c⟩;have M:(x::Region.linearise.go .any LU LU.size t (Array.replicate LU.size false) []).Nodup:=by rw[bQ_];exact⟨c,f2⟩
  have N:=NP (x::Region.linearise.go .any LU LU.size t (Array.replicate LU.size false) []) M LU.size λy b=>X;rw[aC_,L]at N;omega
 have Q:(Region.linearise .any LU t).Pairwise λy x=>x<y->okD LU zzD x y:=by
  refine dK_ ?_ f3;intro y x b d R T;have r:=NR (LU:=LU) (f1 y b).1 T R;have f:=aZ_.1 J _ r;unfold apB at f;split at f;rename_i V W hi hj;refine⟨V,W,hi,hj,f,?_⟩;have i:x∈List.range LU.size:=(e x).1 d;have j:y∈List.range LU.size:=(e y).1 b;cases k:Js LU x with|true=>rw[h.dat x i k];exact Z7|false =>cases l:Js LU y with|true=>rw[h.dat y j l];exact Z8|false=>exact v (x,y) (bT_.2 ⟨r,X⟩)
  grind
 have hC:(List.range LU.size).Pairwise (·< ·):=dL_;let⟨s,o⟩:=C.drew;have o:St Y A g S {w with drawn:=w.drawn+1 }:=o;refine(mN.perm hC Q e f2 h).Ry F m A g a _ _ z o (E.later s.toLater) λa' w' g' h1 h2 h3=>⟨rfl,g',h1,h2,s.trans h3⟩
end
def bm(P:Program)(Y:World)(B:Nat)(q:nV)(U:AA)(S:ah)(r:AV)(d:Dt):Prop :=∀(n:Nat)(o:Oper),res P.toTables o.op=some q->(sI o.op=true->d=.none_)/\iC S d.F/\∀T,B<=T.nx->iC T d.F->(d.m=true->T.nx=S.nx)->jO P Y n o (U.only (dS o)) T r (eX T d.W d.m)
def W5:nV->Bool|.mv _|.pick ..|.build ..|.rows ..|.not _|.OC ..|.field ..|.extract ..|.W4 ..|.OD _=>true|_=>false
def dq(q:nV)(f:Nat->AV)(S:ah)(rs:List Nat):Option (AV×Dt×List Nat) :=match q with
 |.load k x=>match x.ev f with
  |.ip row=>match wX k row 0 with|some a=>some (a,⟨[],[],false⟩,rs)|none=>none
  |.pt b d i j=>match S.get b with
   |some (.arr c rows fz ex)=>match xg k S (.pt b d i j) with|some a=>some (a,⟨[(b,.arr c rows fz ex)],[],false⟩,rs)|none=>none
   |_=>none
  |_=>none
 |.store n x b=>match b.ev f,x.ev f with
  |e,.pt k d 0 j=>match S.get k with
   |some (.arr c [row] 0 ex)=>match Nat.beq d c&&(bp e).all db&&Nat.beq n (bp e).length with
    |true=>match Nat.ble (j+(bp e).length) row.length with|true=>some (.v undef,⟨[(k,.arr c [row] 0 ex)],[(k,some (.arr d [uF row j (bp e)] 0 ex))],false⟩,rs)|false=>none
    |false=>none
   |_=>none
  |_,_=>none
 |.alloc g=>match rs with
  |k::rs=>match S.get k with|some .un=>some (.pt k g.length 0 0,⟨[(k,.un)],[(k,some (.arr g.length [g] 0 true))],false⟩,rs)|_=>none
  |[]=>none
 |.box x=>match(bp (x.ev f)).all db with|true=>some (.pt S.nx (bp (x.ev f)).length 0 0,⟨[],[(S.nx,some (.arr (bp (x.ev f)).length [bp (x.ev f)] 0 true))],true⟩,rs)|false=>none
 |.call ..=>none|q=>match W5 q with
  |true=>match oH q f S with|some (r,_)=>some (r,⟨[],[],false⟩,rs)|none=>none
  |false=>none
section
variable{d:Dt}
theorem ac8(d:W5 q=true)(h:oH q f S=some (r,S'))(T:ah):oH q f T=some (r,T):=by
 have e:∀{a:AV}{b c:ah},some (a,b)=some (r,c)->a=r:=λh=>X;cases q<;>first|exfalso;cases d;done|skip
 all_goals
  simp only[oH]at h⊢;repeat' split at h
  all_goals first|cases h;done|cases e h;simp only[*];done|cases e h;rfl
theorem bm.MN(h1:∀o,res P.toTables o=some q->sI o=true->d=.none_)(h2:iC S d.F)(h:∀T,iC T d.F->(d.m=true->T.nx=S.nx)->∀o,res P.toTables o=some q->bV P Y o U T (B2 r (eX T d.W d.m))):bm P Y B q U S r d:=by intro n o a;refine⟨h1 _ a,h2,λT _ b c=>?_⟩;obtain⟨f,S1,e,rfl,rfl⟩:=pZ (n:=n) (h T b c o.op a);exact e
theorem Ti{e:TypeId}{z:Value}{k:Nat}(x:o.op=.alloc e)(y:eu P e=some z)(B:S.get k=some .un)(C:k<S.nx):a_ P Y n o U S (.pt k (z.cells.toList.map b9).length 0 0) (S.set k (some (.arr (z.cells.toList.map b9).length [z.cells.toList.map b9] 0 true))):=by
 intro A g a w l M;let⟨b,E⟩:∃b,z.cells.toList.map b9=b:=⟨_,rfl⟩;have r:=tD.b9 (g:=g) (w:=w) z.cells;rw[E]at r⊢;have s:¬g.al k:=λh=>(l.cX k _ B h).2.2;have F:St Y A g (S.set k (some (.arr b.length [b] 0 true))) w:=l.forget (ad_ _) λj p c t=>by have c:bJ S.get k (some (.arr b.length [b] 0 true)) j=some p:=c;rwa[aN _ _ λe=>s X]at c
 let⟨G,K⟩:=F.newAt (.cells z.cells e) s C 1 (λJ d=>by have d:bJ S.get k (some (.arr b.length [b] 0 true)) k=some (.fo J):=d;rw[aG]at d;cases d) (λob f L=>by
  have f:bJ S.get k (some (.arr b.length [b] 0 true)) k=some ob:=f;rw[aG]at f;cases oJ_ f;refine⟨z.cells,e,eg,X,aB,λ_=>rfl,λi row m=>?_,aF_ _,λq=>⟨λu=>?_,λu=>X⟩⟩;cases i with|succ i=>simp at m|zero =>simp at m;subst m;refine⟨rfl,λj a t=>?_⟩;have c:j<z.cells.size:=X;exact⟨z.cells[j],aB,(r.2 j a _ t (aM_ c)).later L⟩
  exact absurd (l.dL _ _ u) Z);have v:=aO.pt (g:=g.new k w.heap.size 1) (w:=w.alloc (.cells z.cells e)) (k:=k) (sz:=b.length) (i:=0) (j:=0) (.inr rfl);rw[show(g.new k w.heap.size 1).ob k=w.heap.size from aG _ _ _]at v;refine⟨_,_,_,.inl ?_,by simpa using v,K,G⟩;simp[execOp,x,Instr.alloc,pC y,newVar,newRow]
theorem ac9{df:List DE}(V:∀k∈rs,k<B)(h:dq q f S rs=some (r,d,Lc)):bm P Y B q ⟨f,df⟩ S r d/\∀k∈Lc,k∈rs:=by
 have W:∀{T:ah},W5 q=true->(match oH q f S with|some (r,_)=>some (r,(⟨[],[],false⟩:Dt),rs)|none=>none)=some (r,d,Lc)->bm P Y B q ⟨f,df⟩ S r d/\∀k∈Lc,k∈rs:=by intro T s h;split at h;rename_i a C y;simp only[oI_,pI_]at h;obtain⟨rfl,rfl,rfl⟩:=h;exact⟨bm.MN (λ_ _ _=>rfl) (λp s=>X) λT _ _ o l=>by grind[eX,lM,xB,ac8],λ_ t=>t⟩;grind
 have nP:∀{A:Prop},(∀o,res P.toTables o=some q->sI o=true->A)->∀o,res P.toTables o=some q->sI o=true->A:=λh=>h;cases q with
 |load k x =>
  have E:∀o,res P.toTables o=some (.load k x)->sI o=true->d=.none_:=λo l s=>by cases o<;>simp only[res]at l<;>(repeat' split at l)<;>(try cases l)<;>cases s
  have fin:∀{a:AV}{F:List (Nat×Ob)},(∀T,iC T F->xg k T (x.ev f)=some a)->iC S F->some (a,(⟨F,[],false⟩:Dt),rs)=some (r,d,Lc)->bm P Y B (.load k x) ⟨f,df⟩ S r d/\∀k∈Lc,k∈rs:=by intro a F h1 h2 h;simp only[oI_,pI_]at h;obtain⟨rfl,rfl,rfl⟩:=h;refine⟨bm.MN E h2 λT u _ o l=>?_,λ_ t=>t⟩;rw[show eX T [] false=T from lM];exact xB (U:=⟨f,df⟩) l (by grind[oH])
  simp only[dq]at h;split at h;rename_i row y;split at h;rename_i a K;exact fin (λT _=>by rw[y];exact K) (λp s=>X) h;grind;rename_i b sz i j y;split at h;rename_i v rows fz ex M;split at h;rename_i a K;refine fin (λT u=>?_) (λp s=>X) h;have vL:T.get b=some (.arr v rows fz ex):=u (b,_) aB;rw[y];simp only[xg,M,vL]at K⊢;exact K;grind;grind;grind|store m x b =>
  have E:∀o,res P.toTables o=some (.store m x b)->sI o=true->d=.none_:=λo l s=>by cases o<;>simp only[res]at l<;>(repeat' split at l)<;>(try cases l)<;>cases s
  simp only[dq]at h;split at h;rename_i bv k sz j y;split at h;rename_i v row ex t;split at h;rename_i N;split at h;rename_i hl;simp only[oI_,pI_]at h;obtain⟨rfl,rfl,rfl⟩:=h;refine⟨bm.MN E (λp s=>X) λT u _ o l=>?_,λ_ t=>t⟩;refine xB (U:=⟨f,df⟩) l ?_;let⟨G,C⟩:=T;have R:G k=some (.arr v [row] 0 ex):=u (k,_) aB;simp only[oH,y,R,N,hl,eX,eE];grind;grind;grind;grind|alloc cs =>
  simp only[dq]at h;split at h
  ·rename_i k rs1;split at h
   ·rename_i t;simp only[oI_,pI_]at h;obtain⟨rfl,rfl,rfl⟩:=h;refine⟨λn o l=>⟨λs=>?_,λp s=>X,λT M u _=>?_⟩,λ_ h=>X⟩;·cases J:o.op<;>rw[J]at l s<;>simp only[res]at l<;>(repeat' split at l)<;>(try cases l)<;>cases s
    ·have R:T.get k=some .un:=u (k,_) aB;have bL:∃e z,o.op=.alloc e/\eu P e=some z/\cs=z.cells.toList.map b9:=by cases J:o.op<;>rw[J]at l<;>simp only[res,kV]at l<;>(repeat' split at l)<;>(try cases l);exact⟨_,_,rfl,X,rfl⟩
     obtain⟨e,z,J,hz,rfl⟩:=bL;have e1:eX T [(k,some (.arr (z.cells.toList.map b9).length [z.cells.toList.map b9] 0 true))] false=T.set k (some (.arr (z.cells.toList.map b9).length [z.cells.toList.map b9] 0 true)):=by cases T;rfl
     rw[e1];refineλF mm A g a w nx Q hF hS hA hn=>?_;have au:k<T.nx:=aE_ (V k aB) M;exact((Ti (P:=P) (n:=n) J hz R au).ops λc e=>X) F mm A g a w nx Q hF hS hA hn
   grind
  grind|box x =>
  have E:∀o,res P.toTables o=some (.box x)->sI o=true->d=.none_:=λo l s=>by cases o<;>simp only[res]at l<;>(repeat' split at l)<;>(try cases l)<;>cases s
  simp only[dq]at h;split at h;rename_i N;simp only[oI_,pI_]at h;obtain⟨rfl,rfl,rfl⟩:=h;refine⟨bm.MN E (λp s=>X) λT u L o l=>?_,λ_ t=>t⟩;have L:=L rfl;refine xB (U:=⟨f,df⟩) l ?_;let⟨G,C⟩:=T;simp only at L;subst L;simp only[oH,N,Mo,oP,eX,eE];rfl;grind|call g aZ9=>cases h|_ =>first|exact W (T:=S) rfl h|simp only[dq,W5]at h;cases h
end
structure QI where
 d:Option Nat
 g:Option (Nat×Bool)q:nV
inductive QC where|skip|bj (dr:Bool) (l:List QI)|kC (V:List (Nat×Nat)) (l:List QI)|seq (a b:QC)|cond (x:QO) (a b:QC)|block (id:Nat) (a:QC)|scope (a:QC)|loop (a:QC)|exit (id:Nat)|ret|RQ (x:QO) (ps:List Nat) (a b:QC)|raw (c:Code)
def vD(T:Tables)(n:Nat)(LU:List Oper):List Oper->Option (List QI)|[]=>some []|o::l=>match tj n o.dst,res T o.op,vD T n LU l with
  |true,some q,some a=>match o.guard with|none=>some (⟨o.dst,none,q⟩::a)|some (j,b)=>match C7 LU j with|some t=>some (⟨o.dst,some (t,b),q⟩::a)|none=>none
  |_,_,_=>none
def ac_(LU:Array Oper):Bool:=LU.toList.any λo=>match o.op with
 |.call c=>match c.callee,c.args.toList with|.builtin .append,.tmp t::_=>LU.toList.any λp=>(match p.dst with|some d=>Nat.beq d t|none=>false)&&(match p.op with|.call c=>(match c.callee with|.value _=>true|_=>false)|_=>false)|_,_=>false
 |_=>false
def aht(LU:Array Oper):Bool:=LU.toList.any λo=>match o.op with
 |.call c=>match c.callee with|.value (.tmp _)=>true|_=>false
 |_=>false
def ahu(LU:Array Oper):Bool:=K_ LU &&!(ac_ LU||aht LU)
def aqh(T:Tables)(t:TypeId):Bool:=match iS T t with
 |some (.pointer e)=>match iS T e with|some (.struct a)=>Nat.ble 2 (a.toList.filter λf=>match iS T f.type with|some (.map _ _)|some (.slice _)=>true|_=>false).length|_=>false
 |_=>false
def ahv(LU:Array Oper):Bool:=LU.toList.any λo=>match o.op with
 |.call c=>match c.callee,c.args.toList with|.value _,[.tmp t,_,.tmp u] =>(LU.toList.any λp=>(match p.dst with|some d=>Nat.beq d t|none=>false)&&match p.op with|.call c=>(match c.callee with|.value _=>true|_=>false)|_=>false) &&LU.toList.any λp=>(match p.dst with|some d=>Nat.beq d u|none=>false)&&(match p.op with|.buildSlice ..=>true|_=>false)|_,_=>false
 |_=>false
def ahw(LU:Array Oper):Bool:=LU.toList.any λo=>match o.op with
 |.call c=>match c.callee with
  |.value _=>c.args.toList.any λa=>match a with|.tmp t=>LU.toList.any λp=>(match p.dst with|some d=>Nat.beq d t|none=>false)&&(match p.op with|.call c=>(match c.callee with|.builtin .append=>true|_=>false)|_=>false)|_=>false
  |_=>false
 |_=>false
def ada(T:Tables)(LU:Array Oper):Bool:=ahv LU||ahw LU||LU.toList.any λo=>match o.op with
 |.call c=>match c.callee,c.argTypes.toList with|.value _,t::_=>aqh T t|_,_=>false
 |_=>false
def HX(T:Tables)(LU:Array Oper):Bool:=ahu LU &&!ada T LU
def comp(T:Tables)(n:Nat):Code->Option QC
 |.skip=>some .skip|.label _=>some .skip|.region id LU dr=>match vD T n LU.toList LU.toList with
  |some l=>match dr with|false=>some (.bj false l)|true=>match HX T LU with|true=>some (.bj true l)|false=>some (.kC (KW LU) l)
  |none=>some (.raw (.region id LU dr))
 |.seq a b=>match comp T n a,comp T n b with|some d,some e=>some (.seq d e)|_,_=>none
 |.cond c a b=>match comp T n a,comp T n b with|some d,some e=>some (.cond (qo c) d e)|_,_=>none
 |.block id a=>match comp T n a with|some d=>some (.block id d)|none=>none
 |.scope a=>match comp T n a with|some d=>some (.scope d)|none=>none
 |.loop a=>match comp T n a with|some d=>some (.loop d)|none=>none
 |.exit id=>some (.exit id)|.ret=>some .ret|.rangeFunc f g a b=>match comp T n a,comp T n b with|some d,some e=>some (.RQ (qo f) g.toList d e)|_,_=>none
 |c=>some (.raw c)
def gL(P:Program):Code->Bool|.region _ LU true=>P.follows .mixedOrders&&(HX P.toTables LU||HN LU)|.seq a b=>gL P a&&gL P b|.cond _ a b=>gL P a&&gL P b|.block _ a=>gL P a|.scope a=>gL P a|.loop a=>gL P a|.rangeFunc _ _ a b=>gL P a&&gL P b|_=>true
inductive gw where|seq (c:QC)|A5 (id:Nat)|RT
inductive QF where|run (c:QC) (K:List gw)|out (ex:Exit) (K:List gw)|bj (dr:Bool) (l:List QI) (K:List gw)|kC (B:Nat) (V:List (Nat×Nat)) (lg:List (List Nat×List Nat×Bool)) (rs:List Nat) (l:List QI) (K:List gw)
def Mj(lg:List (List Nat×List Nat×Bool))(i:Nat):List Nat×List Nat×Bool:=lg.getD i ([],[],false)
def vH:List QI->Nat->List Nat|[],_=>[]|i::l,x=>match i.q with|.alloc _=>x::vH l (x+1)|_=>vH l x
def Z9(G:Nat->Option Ob):List Nat->Nat->Option Ob|[]=>G|k::ks=>bJ (Z9 G ks) k (some .un)
def W6(S:ah)(l:List QI):ah:=match S with|⟨G,x⟩=>⟨Z9 G (vH l x),x+(vH l x).length⟩
def al0(V:List (Nat×Nat))(lg:List (List Nat×List Nat×Bool)):Bool:=V.all λp=>dj (Mj lg p.1) (Mj lg p.2)
section
variable(P:Program)(Y:World)(rd:Bool)(n:Nat)
def ly(b:QC)(Q:Exit->AA->ah->Prop)(U:AA)(S:ah):Prop:=∀c,comp P.toTables n c=some b->gL P c=true->Wp P Y rd n c Q U S
def eF(Q:Exit->AA->ah->Prop):List gw->Exit->AA->ah->Prop
 |[]=>Q|.seq b::K=>λex U S=>match ex with|.normal=>ly P Y rd n b (eF Q K) U S|e=>eF Q K e U S
 |.A5 id::K=>λex U S=>match ex with|.exit j=>(match Nat.beq j id with|true=>eF Q K .normal U S|false=>eF Q K (.exit j) U S)|e=>eF Q K e U S
 |.RT::K=>λex U S=>match ex with|.goto _=>False|e=>eF Q K e U S
def Sq(LU:Array Oper)(l:List Nat)(U:AA)(S:ah)(ch:List PanicEntry)(aE:AA)(S':ah):Prop :=∀(F:Fence)(m:Nat)(A:Nat->Prop)(g:Gh)(a:Act)(w:World)(Q:Exit->Act->World->Prop),ml F->St Y A g S w->cN g w n U a ->(∀(d:Act)(b:World)(c:Gh),St Y A c S' b->cN c b n aE d->Ext A g w c b->Q (.panic ch) d b)->wpOpsIn F m P LU Q l a w
def Eh(LU l:List Oper)(Q:AA->ah->Prop)(E:List PanicEntry->AA->ah->Prop)(U:AA)(S:ah):Prop :=∀k,LU.drop k=l->(∃aE S',BO P Y n LU.toArray (List.range' k l.length) U S aE S'/\Q aE S')\/∃ch aE S',Sq P Y n LU.toArray (List.range' k l.length) U S ch aE S'/\E ch aE S'
def lq(dr:Bool)(l:List QI)(Q:AA->ah->Prop)(E:List PanicEntry->AA->ah->Prop)(U:AA)(S:ah):Prop :=∀LU F5,vD P.toTables n LU F5=some l->match dr with|false=>Eh P Y n LU F5 Q E U S|true=>p_ P Y n LU F5 Q U S
def sP(B:Nat)(V:List (Nat×Nat))(lg:List (List Nat×List Nat×Bool))(l:List QI)(Q:AA->ah->Prop)(U:AA)(S:ah):Prop :=∀LU:List Oper,vD P.toTables n LU (LU.drop lg.length)=some l->∃(zzD:Nat->Dt) (aE:AA) (S':ah),mN P Y n LU.toArray B zzD (List.range' lg.length l.length) U S aE S'/\al0 V (lg++(List.range' lg.length l.length).map λi=>(zzD i).ns)=true/\Q aE S'
def H(Q:Exit->AA->ah->Prop):QF->AA->ah->Prop|.run c K,U,S=>ly P Y rd n c (eF P Y rd n Q K) U S|.out ex K,U,S=>eF P Y rd n Q K ex U S|.bj dr l K,U,S=>lq P Y n dr l (λU S=>eF P Y rd n Q K .normal U S) (λch U S=>eF P Y rd n Q K (.panic ch) U S) U S|.kC B V lg rs l K,U,S=>(∀k∈rs,k<B)->B<=S.nx->sP P Y n B V lg l (λU S=>eF P Y rd n Q K .normal U S) U S
def bC(f:Nat->AV):Option (Nat×Bool)->Option Bool|none=>some true|some (t,a)=>match f t with
  |.v (.bool true)=>some a|.v (.bool false)=>match a with|true=>some false|false=>some true
  |.v (.tuple _)=>some false|_=>none
def bU(d:Option Nat)(U:AA)(r:AV):AA:=match U,d with|⟨f,l⟩,some d=>⟨bJ f d r,l⟩|U,none=>U
def G7:QF->AA->ah->Option (QF×AA×ah)
 |.run c K,U,S=>match c with
  |.skip=>some (.out .normal K,U,S)|.bj false l=>some (.bj false l K,U,S)|.bj true l=>some (.bj true l K,U,S)|.kC V l=>match S with|⟨G,x⟩=>some (.kC (x+(vH l x).length) V [] (vH l x) l K,U,W6 ⟨G,x⟩ l)
  |.seq a b=>some (.run a (.seq b::K),U,S)|.cond x a b=>match x.ev U.tm with|.v (.bool true)=>some (.run a K,U,S)|.v (.bool false)=>some (.run b K,U,S)|_=>none
  |.block id c=>some (.run c (.A5 id::K),U,S)|.scope c=>some (.run c (.RT::K),U,S)|.exit id=>some (.out (.exit id) K,U,S)|.ret=>some (.out .ret K,U,S)|_=>none
 |.out ex K,U,S=>match K with
  |[]=>none|.seq b::K=>match ex with|.normal=>some (.run b K,U,S)|e=>some (.out e K,U,S)
  |.A5 id::K=>match ex with
   |.exit j=>match Nat.beq j id with|true=>some (.out .normal K,U,S)|false=>some (.out (.exit j) K,U,S)
   |e=>some (.out e K,U,S)
  |.RT::K=>match ex with|.goto _=>none|e=>some (.out e K,U,S)
 |.bj dr l K,U,S=>match l with|[]=>some (.out .normal K,U,S)|i::l=>match bC U.tm i.g with
   |some true=>match oH i.q U.tm S with|some (r,S')=>some (.bj dr l K,bU i.d U r,S')|none=>none
   |some false=>some (.bj dr l K,bU i.d U (.v undef),S)|none=>none
 |.kC B V lg rs l K,U,S=>match l with
  |[]=>match al0 V lg with|true=>some (.out .normal K,U,S)|false=>none
  |i::l=>match bC U.tm i.g with
   |some true=>match dq i.q U.tm S rs with|some (r,d,Lc)=>some (.kC B V (lg++[d.ns]) Lc l K,bU i.d U r,eX S d.W d.m)|none=>none
   |some false=>some (.kC B V (lg++[([],[],false)]) rs l K,bU i.d U (.v undef),S)|none=>none
end
section
variable{rd:Bool}{i:QI}{l:List QI}
theorem HY{d:Option Nat}:bU d U r=Aj d U r:=by cases d<;>cases U<;>rfl
theorem uC{LU:List Oper}(h:vD P.toTables n LU F5=some (i::l)):∃o a,F5=o::a/\vD P.toTables n LU a=some l/\tj n o.dst=true/\o.dst=i.d/\res P.toTables o.op=some i.q /\∀b,bC U.tm i.g=some b->mj LU U o=some b:=by cases F5 with|nil=>cases h|cons o a =>simp only[vD]at h;split at h;rename_i q r d e f;split at h;grind[bC,mj];rename_i j s g;split at h;rename_i t k;injection h with h;injection h with m p;subst m p;refine⟨o,a,rfl,f,d,rfl,e,λb c=>?_⟩;simp only[mj,g,ydL,k];simp only[bC]at c;split at c;grind;grind;grind;grind;grind;grind
theorem lq.nil(h:R U S):lq P Y n dr [] R E U S:=by
 intro LU F5 a;have:F5=[]:=by cases F5 with|nil=>rfl|cons o r =>
   simp only[vD]at a;repeat' split at a
   all_goals cases a
 subst this;cases dr with|false=>exactλk b=>.inl (G6.nil (LU:=LU) h k b)|true=>exact p_.nil h
def U4(P:Program)(Y:World)(n:Nat)(o:Oper)(U:AA)(S:ah)(r:AV)(S':ah):Prop :=jO P Y n o (U.only (dS o)) S r S'/\(qf o.op=true->S'=S/\∀S,jO P Y n o (U.only (dS o)) S r S)/\(EH o.op=false->S'=S)
theorem U4.ofD(h:eK P Y o.op U S (B2 r S')):U4 P Y n o U S r S':=by cases e:qf o.op with
 |true =>
  let⟨b,a,c⟩:=aeS e (OA h);obtain⟨rfl,rfl⟩:=a;have f:∀T,jO P Y n o (U.only (dS o)) T b T:=λT=>by obtain⟨g,S',d,rfl,rfl⟩:=pZ (n:=n) (c T);exact d
  exact⟨f _,λ_=>⟨rfl,f⟩,λ_=>rfl⟩|false =>cases i:EH o.op with|false =>let⟨b,a,c⟩:=afq e i h;obtain⟨rfl,rfl⟩:=a;obtain⟨g,S',d,rfl,rfl⟩:=pZ (n:=n) c;exact⟨d,λh=>X,λ_=>rfl⟩|true =>obtain⟨b,j,a,rfl,rfl⟩:=pZ (n:=n) (OA h);exact⟨a,λh=>X,λh=>X⟩
theorem p_.opG{LU:List Oper}{Q:AA->ah->Prop}(b:tj n o.dst=true)(c:mj LU U o=some true)(h:U4 P Y n o U S r S')(k:p_ P Y n LU F5 Q (Aj o.dst U r) S'):p_ P Y n LU (o::F5) Q U S:=by intro i d;let⟨e,f⟩:=drop_cons d;let⟨aE,T,a,g⟩:=k (i+1) f;rw[y4]at a;exact⟨aE,T,.cons ⟨o,e,b,.inr ⟨vF c,r,rfl,h⟩⟩ a,g⟩
def D(P:Program)(Y:World)(dr:Bool)(q:nV)(U:AA)(S:ah)(r:AV)(S':ah):Prop :=match dr with|true=>∀(n:Nat)(o:Oper),res P.toTables o.op=some q->U4 P Y n o U S r S'|false=>∀(n:Nat)(o:Oper),res P.toTables o.op=some q->jO P Y n o U S r S'
theorem jO.MN{n:Nat}(h:bV P Y o.op U S (B2 r S')):jO P Y n o U S r S':=by obtain⟨b,S1,a,rfl,rfl⟩:=GC (n:=n) h;exact a
theorem D.run(h:∀(n:Nat) (o:Oper),res P.toTables o.op=some q->a_ P Y n o U S r S'):D P Y false q U S r S':=λn o a=>(h n o a).ops λc e=>by rw[e]at a;cases a
theorem Sq.step{LU:Array Oper}{i:Nat}{F5:List Nat}{aE:AA}{e:ah}(hi:LU[i]?=some o)(l:(match o.dst with|some d=>Nat.blt d n|none=>true)=true)(p:∀(g:Gh) (w:World) (a:Act),cN g w n U a->Region.wanted o (yielded LU a.tmps)=true)(h:jO P Y n o U S r e)(k:Sq P Y n LU F5 (U.put o.dst r) e ch aE S'):Sq P Y n LU (i::F5) U S ch aE S':=by intro F m A g a w Q b q c s;simp only[wpOpsIn,hi];rw[if_pos (p g w a c)];refine⟨λf _=>b.1 f,h F m A g a w _ Q b q c λv t u x y j=>?_⟩;exact k F m A u _ t Q b y (r8 (c.later j.toLater) l x) λz B C E G J=>s z B C E G (j.trans J)
theorem G8{LU:List Oper}(c:mj LU U o=some true)(g:Gh)(w:World)(a:Act)(d:cN g w n U a):Region.wanted o (yielded LU.toArray a.tmps)=true:=by rcases vF c with b|⟨j,f,b,e⟩;simp[Region.wanted,b];simp[Region.wanted,b,Ac d e]
theorem Eh.opS{LU:List Oper}{Q:AA->ah->Prop}(c:tj n o.dst=true)(d:mj LU U o=some true)(h:jO P Y n o U S r S')(k:Eh P Y n LU F5 Q E (Aj o.dst U r) S'):Eh P Y n LU (o::F5) Q E U S:=by intro i g;let⟨e,j⟩:=drop_cons g;have f:=k (i+1) j;rw[y4]at f;exact f.imp (λ⟨aE,T,a,b⟩=>⟨aE,T,BO.step e c (G8 d) h a,b⟩) λ⟨ch,aE,T,a,b⟩=>⟨ch,aE,T,Sq.step e c (G8 d) h a,b⟩
theorem Eh.skip{LU:List Oper}{Q:AA->ah->Prop}(q:tj n o.dst=true)(u:mj LU U o=some false)(k:Eh P Y n LU F5 Q E (Aj o.dst U (.v undef)) S):Eh P Y n LU (o::F5) Q E U S:=by
 intro i v;let⟨r,x⟩:=drop_cons v;have s:=k (i+1) x;rw[y4]at s;let⟨j,C,b,y,z,B⟩:=IN u;have t:∀(g:Gh)(w:World)(a:Act),cN g w n U a->¬Region.wanted o (yielded LU.toArray a.tmps)=true:=λg w a c=>by simp[Region.wanted,y,Ac c z,B]
 refine s.imp (λ⟨aE,T,e,h⟩=>⟨aE,T,λF m A g a w Q d l c p=>?_,h⟩) λ⟨ch,aE,T,e,h⟩=>⟨ch,aE,T,λF m A g a w Q d l c p=>?_,h⟩;show wpOpsIn F m P LU.toArray Q (i::List.range' (i+1) F5.length) a w;simp only[wpOpsIn,r];rw[if_neg (t g w a c)];exact⟨λf _=>d.1 f,e F m A g _ w Q d l (r8 c q .v) p⟩;show wpOpsIn F m P LU.toArray Q (i::List.range' (i+1) F5.length) a w;simp only[wpOpsIn,r];rw[if_neg (t g w a c)];exact⟨λf _=>d.1 f,e F m A g _ w Q d l (r8 c q .v) p⟩
def aum:nV->Bool|.call ..=>true|_=>false
theorem D.of(d:aum q=false)(h:∀o,res P.toTables o=some q->bV P Y o U S (B2 r S')):D P Y dr q U S r S':=by cases dr with|false=>exactλn o a=>jO.MN (h o.op a)|true =>intro n o a;refine U4.ofD ?_;have b:=h o.op a;generalize o.op=op at a b;cases op with|call c =>simp only[eK];split;rename_i f e;simp only[res,e,oI_]at a;subst a;cases d;grind|_=>exact b
theorem lq.op(b:bC U.tm i.g=some true)(h:D P Y dr i.q U S r S')(k:lq P Y n dr l R E (bU i.d U r) S'):lq P Y n dr (i::l) R E U S:=by intro LU F5 f;obtain⟨o,g,rfl,j,c,m,d,e⟩:=uC (U:=U) f;have a:=k LU g j;rw[HY,<-m]at a;cases dr with|false=>exact Eh.opS c (e _ b) (h n o d) a|true=>exact p_.opG c (e _ b) (h n o d) a
theorem lq.skip(b:bC U.tm i.g=some false)(k:lq P Y n dr l R E (bU i.d U (.v undef)) S):lq P Y n dr (i::l) R E U S:=by intro LU F5 e;obtain⟨o,f,rfl,g,c,h,j,d⟩:=uC (U:=U) e;have a:=k LU f g;rw[HY,<-h]at a;cases dr with|false=>exact Eh.skip c (d _ b) a|true=>exact p_.skip c (d _ b) a
def OpP(P:Program)(Y:World)(n:Nat)(o:Oper)(U:AA)(S:ah)(ch:List PanicEntry)(S':ah):Prop :=∀(F:Fence)(m:Nat)(A:Nat->Prop)(g:Gh)(a:Act)(w:World)(next:Act->World->Prop)(Q:Exit->Act->World->Prop),ml F->St Y A g S w->cN g w n U a ->(∀(b:World)(c:Gh),St Y A c S' b->Ext A g w c b->Q (.panic ch) a b)->o.uponIn F m P a next Q ((o.semAt F.round a.eval).run P w)
def zC(P:Program)(Y:World)(q:nV)(U:AA)(S:ah)(ch:List PanicEntry)(S':ah):Prop:=∀(n:Nat)(o:Oper),res P.toTables o.op=some q->OpP P Y n o U S ch S'
theorem lq.Ie(e:bC U.tm i.g=some true)(h:zC P Y i.q U S ch S')(k:E ch U S'):lq P Y n false (i::l) R E U S:=by intro LU F5 p;obtain⟨o,q,rfl,B,C,G,r,s⟩:=uC (U:=U) p;intro j t;let⟨u,J⟩:=drop_cons t;refine .inr ⟨ch,U,S',λF m A g a w Q c v b x=>?_,k⟩;show wpOpsIn F m P LU.toArray Q (j::List.range' (j+1) q.length) a w;simp only[wpOpsIn,u];rw[if_pos (G8 (s _ e) g w a b)];exact⟨λf _=>c.1 f,h n o r F m A g a w _ Q c v b λy z q1 d=>x a y z q1 (b.later d.toLater) d⟩
theorem D.quiet(h:oH q U.tm S=some (r,S')):D P Y dr q U S r S':=by refine D.of ?_ λo a=>xB a h;cases q<;>first|rfl|cases h
theorem Sr(h:comp P.toTables n c=some (.bj dr l)):∃id LU,c=.region id LU dr/\vD P.toTables n LU.toList LU.toList=some l/\(dr=true->HX P.toTables LU=true):=by cases c<;>simp only[comp]at h<;>(repeat' split at h)<;>(try cases h);grind;grind
theorem adb(h:comp P.toTables n c=some (.kC V l)):∃id LU,c=.region id LU true/\vD P.toTables n LU.toList LU.toList=some l/\HX P.toTables LU=false/\V=KW LU:=by cases c<;>simp only[comp]at h<;>(repeat' split at h)<;>(try cases h);grind
theorem ade{a b:QC}(h:comp P.toTables n c=some (.seq a b)):∃d c2,c=.seq d c2/\comp P.toTables n d=some a/\comp P.toTables n c2=some b:=by cases c<;>simp only[comp]at h<;>(repeat' split at h)<;>(try cases h);grind
theorem Z_{a b:QC}(h:comp P.toTables n c=some (.cond x a b)):∃y d c2,c=.cond y d c2/\qo y=x/\comp P.toTables n d=some a/\comp P.toTables n c2=some b:=by cases c<;>simp only[comp]at h<;>(repeat' split at h)<;>(try cases h);grind
theorem W7{id:Nat}{a:QC}(h:comp P.toTables n c=some (.block id a)):∃b,c=.block id b/\comp P.toTables n b=some a:=by cases c<;>simp only[comp]at h<;>(repeat' split at h)<;>(try cases h);grind
theorem W8{a:QC}(h:comp P.toTables n c=some (.scope a)):∃b,c=.scope b/\comp P.toTables n b=some a:=by cases c<;>simp only[comp]at h<;>(repeat' split at h)<;>(try cases h);grind
theorem Ny{a:QC}(h:comp P.toTables n c=some (.loop a)):∃b,c=.loop b/\comp P.toTables n b=some a:=by cases c<;>simp only[comp]at h<;>(repeat' split at h)<;>(try cases h);grind
theorem aaa{ps:List Nat}{a b:QC}(h:comp P.toTables n c=some (.RQ x ps a b)):∃y pt d c2,c=.rangeFunc y pt d c2/\qo y=x/\pt.toList=ps/\comp P.toTables n d=some a/\comp P.toTables n c2=some b:=by cases c<;>simp only[comp]at h<;>(repeat' split at h)<;>(try cases h);grind
theorem abK{d:Code}(h:comp P.toTables n c=some (.raw d)):c=d:=by cases c<;>simp only[comp]at h<;>(repeat' split at h)<;>(try cases h)<;>rfl
theorem yP:(comp P.toTables n c=some .skip->SkC c)/\(comp P.toTables n c=some .ret->c=.ret)/\∀id,comp P.toTables n c=some (.exit id)->c=.exit id:=by refine⟨λh=>?_,λh=>?_,λid h=>?_⟩;all_goals cases c<;>simp only[comp]at h<;>(repeat' split at h)<;>(try cases h)<;>first|rfl|exact .inl rfl|exact .inr ⟨_,rfl⟩
theorem aqi{x:Operand}:U.ev x=(qo x).ev U.tm:=(aT x).symm
theorem ly.seq{a b:QC}(h:ly P Y rd n a (λex U S=>match ex with|.normal=>ly P Y rd n b Q U S|e=>Q e U S) U S):ly P Y rd n (.seq a b) Q U S:=by intro c g d;obtain⟨i,j,rfl,k,l⟩:=ade g;simp only[gL,au_]at d;refine Wp.seq ?_;let⟨ex,m,o,p,f⟩:=h i k d.1;refine⟨ex,m,o,p,?_⟩;cases ex with|normal=>exact f j l d.2|_=>exact f
theorem ly.cond{a b:QC}{t:Bool}(e:x.ev U.tm=.v (.bool t))(h:ly P Y rd n (if t then a else b) Q U S):ly P Y rd n (.cond x a b) Q U S:=by intro c f d;obtain⟨y,g,i,rfl,rfl,j,k⟩:=Z_ f;simp only[gL,au_]at d;refine Wp.cond (by rw[aqi];exact e) ?_;cases t with|true=>exact h g j d.1|false=>exact h i k d.2
theorem ly.block{id:Nat}{a:QC}(h:ly P Y rd n a (λex U S=>match ex with|.exit j=>(match Nat.beq j id with|true=>Q .normal U S|false=>Q (.exit j) U S)|e=>Q e U S) U S):ly P Y rd n (.block id a) Q U S:=by intro c b d;obtain⟨f,rfl,g⟩:=W7 b;exact Wp.block (h f g d)
theorem ly.scope{a:QC}(h:ly P Y rd n a (λex U S=>match ex with|.goto _=>False|e=>Q e U S) U S):ly P Y rd n (.scope a) Q U S:=by intro c d f;obtain⟨g,rfl,i⟩:=W8 d;let⟨ex,j,k,m,b⟩:=h g i f;cases ex with|goto l=>exact b.elim|_=>exact⟨_,j,k,ep.scope m λl e=>X,b⟩
theorem ly.bj(h:lq P Y n dr l (λU S=>Q .normal U S) (λch U S=>Q (.panic ch) U S) U S):ly P Y rd n (.bj dr l) Q U S:=by intro c i e;obtain⟨id,LU,rfl,j,k⟩:=Sr i;have f:=h _ _ j;cases dr with|false =>rcases f 0 rfl with⟨aE,S',b,d⟩|⟨ch,aE,S',b,d⟩;rw[bo_,<-ci_]at b;exact⟨_,aE,S',ep.region b,d⟩;rw[bo_,<-ci_]at b;exact⟨.panic ch,aE,S',λF m A g a w o u p q=>wpIn_region (b F m A g a w _ o p q λv x r q1 s t=>⟨rfl,r,q1,s,t⟩),d⟩|true=>exact p_.wp (by simp only[gL,au_]at e;simp only[au_];exact⟨e.1,((au_ _ _).mp ((au_ _ _).mp (k rfl)).1).1⟩) f
theorem NS{G:Nat->Option Ob}:∀{ks:List Nat}{k:Nat},k∉ks->Z9 G ks k=G k|[],_,_=>rfl|p::ks,k,h=>by simp only[al_,not_or]at h;rw[Z9,aN _ _ h.1,NS h.2]
theorem Ei:∀{l:List QI}{x k:Nat},k∈vH l x->x<=k/\k<x+(vH l x).length|[],x,k,h=>by cases h|i::l,x,k,h=>by simp only[vH]at h⊢;split at h;rename_i e;simp only[e,aC_];rcases al_.1 h with rfl|h;omega;have:=Ei h;omega;rename_i e;exact Ei h
theorem St.rsv{A:Nat->Prop}{g:Gh}{w:World}(b:St Y A g S w)(l:List QI):St Y A g (W6 S l) w:=by let⟨G,x⟩:=S;refine b.forget (Nat.le_add_right _ _) λk o a d=>?_;have c:=b.al k d;have c:k<x:=c;have a:Z9 G (vH l x) k=some o:=a;rwa[NS λe=>by have:=(Ei e).1;omega]at a
theorem ly.kC(h:(∀k∈vH l S.nx,k<S.nx+(vH l S.nx).length)->S.nx+(vH l S.nx).length<=(W6 S l).nx->sP P Y n (S.nx+(vH l S.nx).length) V [] l (λU S=>Q .normal U S) U (W6 S l)):ly P Y rd n (.kC V l) Q U S:=by
 intro c v d;obtain⟨id,LU,rfl,r,y,rfl⟩:=adb v;simp only[gL,au_,cf_,y,bw_,false_or]at d;have z:l.length=LU.size:=by
  have key:∀(LU F5:List Oper)(l:List QI),vD P.toTables n LU F5=some l->l.length=F5.length:=by intro LU F5;induction F5 with|nil=>intro l h;cases oJ_ h;rfl|cons o F5 s =>intro l h;cases l with|nil =>exfalso;simp only[vD]at h;split at h;grind;grind|cons i l =>let⟨W,rL,e,b,_⟩:=uC (U:=U) h;injection e with B C;subst B C;simp[s _ b]
  rw[key _ _ _ r];simp
 let⟨zzD,aE,S',b,f,E⟩:=h (λk G=>(Ei G).2) (by cases S;exact ad_ _) LU.toList r;simp only[bi_,z,aO_]at b f;rw[<-ci_]at b f;refine⟨.normal,aE,S',λF m A g a w J K L M=>?_,E⟩;refine ep.aqg d.1 d.2 (λp t=>?_) b F m A g a w J K (L.rsv l) M;have u:=aZ_.1 f p t;have N:=(bT_.1 t).1;have j:∀{m:List Nat}{k:Nat}{q:Nat×Nat},q∈HW LU m k->q.1<k/\q.2<k:=by intro m k q;induction k with|zero=>intro h;cases h|succ k s =>intro h;simp only[HW,aN_,aD_,bT_,aU_]at h;rcases h with⟨x,⟨hx,_⟩,rfl⟩|h;grind;grind
 let⟨R,T⟩:=j N;have get:∀i,i<LU.size->Mj ((List.range LU.size).map λi=>(zzD i).ns) i=(zzD i).ns:=λi hi=>by grind[Mj]
 rw[get _ R,get _ T]at u;exact u
def mN.congr{LU:Array Oper}{zzD a:Nat->Dt}:∀{L:List Nat}{U aE:AA}{S S':ah},(∀i∈L,zzD i=a i)->mN P Y n LU B zzD L U S aE S'->mN P Y n LU B a L U S aE S'|[],_,_,_,_,_,.nil ..=>.nil ..|i::F5,_,_,_,_,b,.cons h t=>.cons X (t.congr λj c=>b j X)
def Be{LU:List Oper}{k:Nat}(h:LU.drop k=o::F5):LU.toArray[k]?=some o/\LU.drop (k+1)=F5:=drop_cons h
theorem sP.step{lg:List (List Nat×List Nat×Bool)}{d:Dt}{R:AA->ah->Prop}(j:∀LU o F5,LU.drop lg.length=o::F5->tj n o.dst=true->o.dst=i.d->res P.toTables o.op=some i.q->(∀b,bC U.tm i.g=some b->mj LU U o=some b)->xq P Y n LU.toArray B lg.length d U S α1 S1)(k:sP P Y n B V (lg++[d.ns]) l R α1 S1):sP P Y n B V lg (i::l) R U S:=by intro LU g;let⟨o,F5,h,m,p,q,r,s⟩:=uC (U:=U) g;let⟨t,u⟩:=Be h;let⟨zzD,aE,S',c,a,k3⟩:=k LU X;simp only[av_,bf_]at c a;refine⟨λi=>if i=lg.length then d else zzD i,aE,S',?_,?_,k3⟩;rw[aC_,cU_];refine .cons X (c.congr λi f=>?_);have:=(List.mem_range'_1.1 f).1;rw[if_neg Z];rw[aC_,cU_,aH_];simp only[if_pos];have e:((List.range' (lg.length+1) l.length).map λi=>(if i=lg.length then d else zzD i).ns)=(List.range' (lg.length+1) l.length).map λi=>(zzD i).ns:=aQ_ λi f=>X;rw[e];rw[bn_]at a;exact a
theorem afu{LU:List Oper}{b:Bool}(h:mj LU U o=some b):(b=true->o.guard=none\/∃j a,o.guard=some (j,a)/\wU LU.toArray U j=some (some a))/\(b=false->∃j a c,o.guard=some (j,a)/\wU LU.toArray U j=some c/\c≠some a):=by
 refine⟨λe=>vF X,λe=>?_⟩;subst e;unfold mj at h;split at h;grind;rename_i j a f;split at h;rename_i d;have:=oJ_ h;subst this;exact⟨j,false,some true,f,by rw[<-E2];exact d,aB⟩;rename_i d;have:=oJ_ h;cases a with|true=>exact⟨j,true,some false,f,by rw[<-E2];exact d,aB⟩|false=>simp at this
 rename_i d;exact⟨j,a,none,f,by rw[<-E2];exact d,aB⟩;grind
theorem sP.op{lg:List (List Nat×List Nat×Bool)}{d:Dt}{R:AA->ah->Prop}(a:B<=S.nx)(b:bC U.tm i.g=some true)(h:bm P Y B i.q U S r d)(k:sP P Y n B V (lg++[d.ns]) l R (bU i.d U r) (eX S d.W d.m)):sP P Y n B V lg (i::l) R U S:=by refine sP.step (λLU o F5 c e f g j=>?_) k;let⟨m,p,k3⟩:=h n o g;exact⟨o,(Be c).1,e,m,a,p,rfl,.inr ⟨(afu (j _ b)).1 rfl,r,by rw[HY,<-f];cases o.dst<;>rfl,λT q s t=>k3 T q s t⟩⟩
theorem sP.skip{lg:List (List Nat×List Nat×Bool)}{R:AA->ah->Prop}(a:B<=S.nx)(b:bC U.tm i.g=some false)(k:sP P Y n B V (lg++[([],[],false)]) l R (bU i.d U (.v undef)) S):sP P Y n B V lg (i::l) R U S:=by refine sP.step (d:=.none_) (λLU o F5 e f g t h=>?_) k;let⟨j,m,c,q,r,s⟩:=(afu (h _ b)).2 rfl;exact⟨o,(Be e).1,f,λ_=>rfl,a,show iC S [] fromλp u=>X,lM.symm,.inl ⟨j,m,c,q,r,s,by rw[HY,<-g];cases o.dst<;>rfl,rfl⟩⟩
def ly.done{a:QC}(b:∀c,comp P.toTables n c=some a->Wp P Y rd n c Q U S):ly P Y rd n a Q U S:=λc d _=>b c d
theorem aab{m o:QF}(h:G7 m U S=some (o,aE,S'))(k:H P Y rd n Q o aE S'):H P Y rd n Q m U S:=by have e:∀{x:QF}{y:AA}{z:ah},some (x,y,z)=some (o,aE,S')->H P Y rd n Q x y z:=λh=>X;cases m with
 |run c K =>
  simp only[G7]at h;split at h;exact ly.done λc a=>Wp.of (ep.skip (yP.1 a)) (e h);exact ly.bj (e h);exact ly.bj (e h);rename_i V l;cases S with|mk G x =>simp only[oI_,pI_]at h;obtain⟨rfl,rfl,rfl⟩:=h;exact ly.kC λg p=>k g p
  exact ly.seq (e h);split at h;rename_i a;exact ly.cond a (e h);rename_i a;exact ly.cond a (e h);grind;exact ly.block (e h);exact ly.scope (e h);exact ly.done λc a=>by rw[yP.2.2 _ a];exact Wp.of (ep.exit_ _) (e h)
  exact ly.done λc a=>by rw[yP.2.1 a];exact Wp.of ep.ret (e h)
  grind|out ex K =>cases K with|nil=>simp[G7]at h|cons it K =>cases it with
   |seq b=>cases ex<;>(simp only[G7]at h;have t:=e h;exact t)|A5 id =>cases ex with|exit j =>simp only[G7]at h;show match Nat.beq j id with|true=>eF P Y rd n Q K .normal U S|false=>eF P Y rd n Q K (.exit j) U S;split at h;have t:=e h;exact t;have t:=e h;exact t|_=>simp only[G7]at h;have t:=e h;exact t
   |RT =>cases ex with|goto l=>simp[G7]at h|_=>simp only[G7]at h;have t:=e h;exact t
 |bj dr l K =>simp only[G7]at h;split at h;exact lq.nil (e h);rename_i i l;split at h;rename_i f;split at h;rename_i r T q;exact lq.op f (D.quiet q) (e h);grind;rename_i f;exact lq.skip f (e h);grind|kC B V lg rs l K =>intro s u;simp only[G7]at h;split at h;split at h;rename_i a;have g:=e h;exactλLU _=>⟨λ_=>.none_,U,S,.nil ..,X,g⟩;grind;rename_i i l;split at h;rename_i f;split at h;rename_i r d Lc q;let⟨g,p⟩:=ac9 (P:=P) (Y:=Y) (df:=U.df) s q;exact sP.op u f g (e h (λk v=>s k (p k v)) (by grind[gK]));grind;rename_i f;exact sP.skip u f (e h s u);grind
end
end Go.Proofs.YtbdcmpknicjopaaGreat
