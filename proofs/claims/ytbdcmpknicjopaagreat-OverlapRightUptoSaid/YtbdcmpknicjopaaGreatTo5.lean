import Derived.Test.YtbdcmpknicjopaaGreatTo4
namespace Go.Proofs.YtbdcmpknicjopaaGreat
set_option linter.all false
open Go.RowKit
variable{B n:Nat}{E:List PanicEntry->AA->ao->Prop}{FJ:List Oper}{MQ:Array Oper}{Mc rs:List Nat}{P:Program}{Q Q':Exit->AA->ao->Prop}{R:AA->ao->Prop}{S S' S1:ao}{U:World}{V:List (Nat×Nat)}{W:List (Nat×Option Ob)}{Y aI α1:AA}{c:Code}{ch:List PanicEntry}{dr:Bool}{ex:Exit}{f:Nat->AV}{o:Oper}{q:n0}{r:AV}{x:QO}
variable{i:Nat}
structure Dt where F:List (Nat×Ob)W:List (Nat×Option Ob)m:Bool
def Dt.none_:Dt:=⟨[],[],false⟩
def gQ(T:ao)(F:List (Nat×Ob)):Prop:=∀p∈F,T.get p.1=some p.2
def eD(G:Nat->Option Ob):List (Nat×Option Ob)->Nat->Option Ob|[]=>G|p::W=>bK (eD G W) p.1 p.2
def Kd:List (Nat×Option Ob)->Bool->Nat|_::_::_::_,true=>16|_,true=>1|_,false=>0
theorem zg:Kd W false=0:=by grind[Kd]
def fA(T:ao)(W:List (Nat×Option Ob))(m:Bool):ao:=match T,m with|⟨G,x⟩,true=>⟨eD G W,x+Kd W true⟩|⟨G,x⟩,false=>⟨eD G W,x⟩
theorem ij{T:ao}{m:Bool}:fA T W m=⟨eD T.get W,T.nx+Kd W m⟩:=by cases T;cases m;rw[zg];rfl;rfl
def IT(l m:List Nat):Bool:=l.all λx=>m.all λy=>!Nat.beq x y
theorem KE{l m:List Nat}(h:IT l m=true){x y:Nat}(a:x∈l)(b:y∈m):x≠y:=by intro e;subst e;have:=bb_.1 (bb_.1 h x a) x b;rw[bD_]at this;cases this
def dj(x y:List Nat×List Nat×Bool):Bool:=IT x.2.1 y.1&&IT x.2.1 y.2.1&&IT x.1 y.2.1 &&!(x.2.2&&y.2.2)
def Dt.ns(d:Dt):List Nat×List Nat×Bool:=(d.F.map (·.1),d.W.map (·.1),d.m)
theorem qg{G:Nat->Option Ob}:∀{W:List (Nat×Option Ob)}{k:Nat},k∉W.map (·.1)->eD G W k=G k|[],_,_=>rfl|p::W,k,h=>by simp only[aK_,al_,not_or]at h;rw[eD,aR _ _ h.1,qg h.2]
theorem abe{G:Nat->Option Ob}{V:List (Nat×Option Ob)}(h:∀x∈W.map (·.1),∀y∈V.map (·.1),x≠y):eD (eD G W) V=eD (eD G V) W:=by
 have key:∀{G a:Nat->Option Ob}{W:List (Nat×Option Ob)}{k:Nat},k∈W.map (·.1)->eD G W k=eD a W k:=by intro G a W k;induction W with|nil=>intro h;cases h|cons p W b =>intro h;by_cases e:k=p.1;subst e;rw[eD,eD,aK,aK];rw[eD,eD,aR _ _ e,aR _ _ e];exact b ((al_.1 h).resolve_left e)
 funext k;by_cases c:k∈V.map (·.1);grind[qg];grind[qg]
section
variable{zzD:Nat->Dt}
def sY:Op->Bool|.buildSlice ..=>false|o=>qw o
theorem CL{o:Op}(h:qw o=false):sY o=false:=by cases o<;>first|rfl|exact h
def yc(P:Program)(U:World)(n:Nat)(MQ:Array Oper)(B:Nat)(i:Nat)(d:Dt)(Y:AA)(S:ao)(α1:AA)(S1:ao):Prop :=∃o,MQ[i]?=some o/\(match o.dst with|some d=>Nat.blt d n|none=>true)=true/\(sY o.op=true->d=.none_)/\B<=S.nx/\gQ S d.F/\S1=fA S d.W d.m /\((∃(j:Nat) (a:Bool) (b:Option Bool),o.guard=some (j,a)/\xB MQ Y j=some b/\b≠some a/\α1=Y.put o.dst (.v undef)/\d=.none_) \/(o.guard=none\/∃j a,o.guard=some (j,a)/\xB MQ Y j=some (some a))/\∃r,α1=Y.put o.dst r/\∀T,B<=T.nx->gQ T d.F->(d.m=true->T.nx=S.nx)->jZ P U n o (Y.only (d_ o)) T r (fA T d.W d.m))
theorem lR:fA S [] false=S:=by cases S;rfl
theorem yc.shape{d:Dt}(h:yc P U n MQ B i d Y S α1 S1):∃o a,MQ[i]?=some o/\α1=Y.put o.dst a/\gQ S d.F/\S1=fA S d.W d.m/\B<=S.nx:=by let⟨o,e,_,_,f,g,k,h⟩:=h;rcases h with⟨j,l,b,c,m,p,rfl,_⟩|⟨c,r,rfl,_⟩;grind;grind
theorem yc.anyS{d:Dt}{T:ao}(h:yc P U n MQ B i d Y S α1 S1)(a:B<=T.nx)(b:gQ T d.F)(g:d.m=true->T.nx=S.nx):yc P U n MQ B i d Y T α1 (fA T d.W d.m):=by let⟨o,c,e,f,_,j,k,h⟩:=h;refine⟨o,c,e,f,a,b,rfl,?_⟩;rcases h with h|⟨l,r,m,p⟩;grind;grind
theorem yc.frame{m:Dt}{d:Option Tmp}{a:AV}(h:yc P U n MQ B i m Y S α1 S1)(k:∀o,MQ[i]?=some o->∀e,d=some e->e∉o.looksAt MQ/\o.dst≠some e):yc P U n MQ B i m (Y.put d a) S (α1.put d a) S1:=by
 let⟨o,f,q,s,u,v,w,h⟩:=h;have E:∀e,d=some e->e∉d_ o:=λe l y=>(k o f e l).1 (BU y);have F:∀j g,o.guard=some (j,g)->∀e,d=some e->MQ[j]?.bind (·.dst)≠some e:=by intro j g c e l p;refine(k o f e l).1 (aO_.2 (.inr ?_));rw[c];simp only;rw[p];simp
 have z:∀x,(Y.put o.dst x).put d a=(Y.put d a).put o.dst x:=λx=>(put_comm λt A e=>(k o f t A).2 e).symm;refine⟨o,f,q,s,u,v,w,?_⟩;rcases h with⟨j,g,b,c,C,G,rfl,J⟩|⟨c,r,rfl,p⟩;grind[yb];refine .inr ⟨?_,r,z _,by grind[EE]⟩;rcases c with c|⟨j,g,c,C⟩;grind;grind[yb]
theorem yc.swap{j:Nat}{g f:Dt}{w A:Oper}{K:AA}{L:ao}(hi:MQ[i]?=some w)(hj:MQ[j]?=some A)(pw:w.apart MQ A=true)(M:dj g.ns f.ns=true)(h:yc P U n MQ B i g Y S α1 S1)(k:yc P U n MQ B j f α1 S1 K L):∃N Q,yc P U n MQ B j f Y S N Q/\yc P U n MQ B i g N Q K L:=by
 let⟨R,e2,e3⟩:=Oper.apart_spec pw;obtain⟨l,a,mF,rfl,pS,rfl,C⟩:=h.shape;obtain rfl:l=w:=Z;obtain⟨t,b,nB,rfl,Zg,rfl,hBj⟩:=k.shape;obtain rfl:t=A:=Z;simp only[dj,Dt.ns,aw_,cg_,du_]at M;let⟨⟨⟨d1,d2⟩,d3⟩,d4⟩:=M;have KU:gQ S f.F:=λp m=>by have:=Zg p m;rw[ij]at this;rw[<-this];exact(qg λv=>KE d1 v (aE_.2 ⟨p,m,rfl⟩) rfl).symm
 have E:gQ (fA S f.W f.m) g.F:=λp m=>by rw[<-pS p m,ij];exact qg λv=>KE d3 (aE_.2 ⟨p,m,rfl⟩) v rfl
 have F:fA (fA S f.W f.m) g.W g.m=fA (fA S g.W g.m) f.W f.m:=by grind[ij,abe,KE]
 have kj:yc P U n MQ B j f Y S (Y.put t.dst b) (fA S f.W f.m):=by
  let⟨o,T,hn,m,q0,q1,q2,hk⟩:=k;obtain rfl:o=t:=Z;have h1:∀e,l.dst=some e->e∉d_ o:=λe u v=>R e u (BU v);have h2:∀q G,o.guard=some (q,G)->∀e,l.dst=some e->MQ[q]?.bind (·.dst)≠some e:=by intro q G J e u s;refine R e u (aO_.2 (.inr ?_));rw[J];simp only;rw[s];simp
  have inj:∀x y:AV,(Y.put l.dst a).put o.dst x=(Y.put l.dst a).put o.dst y->Y.put o.dst x=Y.put o.dst y:=by intro x y V;cases Ah:o.dst with|none=>rfl|some d =>
    rw[Ah]at V;have:x=y:=by have s:=congrArg (λz:AA=>z.tm d) V;simpa[AA.put,aK] using s
    rw[this]
  refine⟨o,T,hn,m,C,KU,rfl,?_⟩;rcases hk with⟨q,G,c,J,hy,dH,s,h4⟩|⟨J,r,s,h4⟩;grind[yb];grind[EE,yb,ij,zg]
 have W:=(h.anyS (by grind[ij]) E λe=>by grind[ij,zg]).frame (d:=t.dst) (a:=b) λo T e u=>by obtain rfl:o=l:=Z;exact⟨e3 e u,λs=>e2 e s u⟩
 rw[F,show(Y.put l.dst a).put t.dst b=(Y.put l.dst a).put t.dst b from rfl]at W;exact⟨_,_,kj,W⟩
inductive mS(P:Program)(U:World)(n:Nat)(MQ:Array Oper)(B:Nat)(zzD:Nat->Dt):List Nat->AA->ao->AA->ao->Prop where|nil (Y:AA) (S:ao):mS P U n MQ B zzD [] Y S Y S|cons {i:Nat}{FJ:List Nat}{Y α1 aI:AA}{S S1 S':ao}(h:yc P U n MQ B i (zzD i) Y S α1 S1) (t:mS P U n MQ B zzD FJ α1 S1 aI S'):mS P U n MQ B zzD (i::FJ) Y S aI S'
def okD(MQ:Array Oper)(zzD:Nat->Dt)(i j:Nat):Prop:=∃a b,MQ[i]?=some a/\MQ[j]?=some b/\a.apart MQ b=true/\dj (zzD i).ns (zzD j).ns=true
theorem mS.front{j:Nat}:∀{a b:List Nat}{Y aI:AA}{S S':ao},(∀x∈a,okD MQ zzD x j)->mS P U n MQ B zzD (a++j::b) Y S aI S'->mS P U n MQ B zzD (j::(a++b)) Y S aI S'|[],b,Y,aI,S,S',_,h=>h|x::a,b,Y,aI,S,S',c,h=>by cases h with|@cons _ _ _ α1 _ _ S1 _ h t =>have d:=mS.front (λy o=>c y Z) t;cases d with|@cons _ _ _ p _ _ q _ k t2 =>let⟨r,s,e,f,g,i⟩:=c x aE;let⟨u,v,l,m⟩:=h.swap e f g i k;exact .cons l (.cons m t2)
theorem mS.perm:∀{L C:List Nat}{Y aI:AA}{S S':ao},C.Pairwise (·< ·)->L.Pairwise (λy x=>x<y->okD MQ zzD x y)->(∀x,x∈L↔x∈C)->L.Nodup->mS P U n MQ B zzD C Y S aI S'->mS P U n MQ B zzD L Y S aI S'
 |[],C,Y,aI,S,S',_,_,c,_,h=>by
  have:C=[]:=by cases C with|nil=>rfl|cons x C=>have:=(c x).2 aE;cases this
  subst this;exact h|y::L,C,Y,aI,S,S',f,d,c,g,h=>by obtain⟨i,j,rfl⟩:=List.append_of_mem ((c y).1 aE);rw[ch_]at d;rw[bU_]at g;rw[cW_,ch_]at f;let⟨m,⟨o,p⟩,k⟩:=f;have q:∀x∈i,x<y:=λx e=>k x e y aE;have v:∀x∈j,y<x:=o;have l:∀x,x∈L↔x∈i++j:=Z;have r:=mS.front (λx e=>d.1 x ((l x).2 Z) (q x e)) h;cases r with|cons s t =>refine .cons s (mS.perm (L:=L) ?_ d.2 l g.2 t);rw[cW_];exact⟨m,p,λa u b w=>k a u b Z⟩
theorem mS.SV:∀{L:List Nat}{Y aI:AA}{S S':ao},mS P U n MQ B zzD L Y S aI S'->Cs P U n MQ L Y S aI S'
 |[],_,_,_,_,.nil Y S=>λF m A g a w Q d l c p=>p a w g l c (Ext.refl ..)|i::FJ,Y,aI,S,S',.cons (α1:=α1) (S1:=S1) h t=>by
  have u:=mS.SV t;let⟨o,x,y,hp,G,J,z,h⟩:=h;rcases h with⟨j,K,b,k,q,M,rfl,N⟩|⟨k,r,rfl,s⟩;have e:S1=S:=by rw[z,N];exact lR
  subst e;intro F m A g a w Q d l c p;have R:¬Region.wanted o (yielded MQ a.tmps)=true:=by simp[Region.wanted,k,AO c q,M]
  simp only[wpOpsIn,x];rw[if_neg R];exact⟨λf _=>d.1 f,u F m A g _ w Q d l (sD c y .v) p⟩;intro F m A g a w Q d l c p;have T:Region.wanted o (yielded MQ a.tmps)=true:=by rcases k with k|⟨j,K,k,q⟩;simp[Region.wanted,k];simp[Region.wanted,k,AO c q]
  simp only[wpOpsIn,x];rw[if_pos T];have C:=s S G J λ_=>rfl;rw[<-z]at C;refine⟨λf _=>d.1 f,C F m A g a w _ Q d l (c.only _) λv V W hr lB E=>?_⟩;exact u F m A W _ V Q d lB (sD (c.later E.toLater) y hr) λa' qy Hz h1 h2 s=>p a' qy Hz h1 h2 (E.trans s)
def IU(MQ:Array Oper)(m:List Nat):Nat->List (Nat×Nat)|0=>[]|y+1=>((List.range y).filter λx=>!(m.getD y 0).testBit x).map (λx=>(x,y))++IU MQ m y
def Kv(MQ:Array Oper)(i:Nat):Bool:=match MQ[i]? with|some o=>sY o.op|none=>true
def apB(MQ:Array Oper)(x y:Nat):Bool:=match MQ[x]?,MQ[y]? with|some a,some b=>a.apart MQ b|_,_=>false
def agV(MQ:Array Oper):List (Nat×Nat):=IU MQ (beforeL [] MQ.toList) MQ.size
def LX(MQ:Array Oper):List (Nat×Nat):=(agV MQ).filter λp=>!Kv MQ p.1 &&!Kv MQ p.2
def IJ(MQ:Array Oper):Bool:=uX 0 MQ.toList&&(agV MQ).all λp=>apB MQ p.1 p.2
theorem OP{m:List Nat}:∀{k x y:Nat},y<k->x<y->(m.getD y 0).testBit x=false->(x,y)∈IU MQ m k|0,x,y,h,_,_=>X|k+1,x,y,h,a,b=>by simp only[IU,aO_];by_cases c:y=k;grind;exact .inr (OP X a b)
theorem abf{y:List Nat×List Nat×Bool}:dj Dt.none_.ns y=true:=by simp[dj,Dt.none_,Dt.ns,IT]
theorem abg{x:List Nat×List Nat×Bool}:dj x Dt.none_.ns=true:=by simp[dj,Dt.none_,Dt.ns,IT]
theorem mS.dat:∀{L:List Nat}{Y aI:AA}{S S':ao},mS P U n MQ B zzD L Y S aI S'->∀i∈L,Kv MQ i=true->zzD i=.none_|_,_,_,_,_,.nil ..,i,a,_=>Z|_,_,_,_,_,.cons h t,i,a,b=>by rcases al_.1 a with rfl|a;let⟨o,c,_,d,_⟩:=h;simp only[Kv,c]at b;exact d b;exact mS.dat t i a b
theorem eE.ar_{rd:Bool}{id:Nat}(u:P.follows .mixedOrders=true)(q:IJ MQ=true)(v:∀p∈LX MQ,dj (zzD p.1).ns (zzD p.2).ns=true)(h:mS P U n MQ B zzD (List.range MQ.size) Y S aI S'):eE P U rd n (.region id MQ true) Y S .normal aI S':=by
 intro F m A g a w z hR C E;simp only[IJ,aw_]at q;let⟨G,J⟩:=q;refine wpIn_region_draw λt=>?_;simp only[Region.schedule,u,cE_,if_true];have K:IQ MQ (Array.replicate MQ.size false):=⟨aE,λy x b=>by simp only[bg_,cY_]at b;split at b<;>simp at b⟩;let⟨f1,f2,f3,f4⟩:=B4 G MQ.size t _ K;have e:∀x,x∈Region.linearise .any MQ t↔x∈List.range MQ.size:=by
  intro x;refine⟨λd=>by simpa using(f1 x d).1,λd=>?_⟩;have d:x<MQ.size:=Z;by_cases c:x∈Region.linearise .any MQ t;grind;exfalso;have L:=f4 ⟨x,d,by simp[bg_,cY_,d],c⟩;have M:(x::Region.linearise.go .any MQ MQ.size t (Array.replicate MQ.size false) []).Nodup:=by rw[bU_];exact⟨c,f2⟩
  have N:=ON (x::Region.linearise.go .any MQ MQ.size t (Array.replicate MQ.size false) []) M MQ.size λy b=>Z;rw[aH_,L]at N;omega
 have Q:(Region.linearise .any MQ t).Pairwise λy x=>x<y->okD MQ zzD x y:=by
  refine dL_ ?_ f3;intro y x b d R T;have r:=OP (MQ:=MQ) (f1 y b).1 T R;have f:=bb_.1 J _ r;unfold apB at f;split at f;rename_i V W hi hj;refine⟨V,W,hi,hj,f,?_⟩;have i:x∈List.range MQ.size:=(e x).1 d;have j:y∈List.range MQ.size:=(e y).1 b;cases k:Kv MQ x with|true=>rw[h.dat x i k];exact abf|false =>cases l:Kv MQ y with|true=>rw[h.dat y j l];exact abg|false=>exact v (x,y) (cb_.2 ⟨r,Z⟩)
  grind
 have hC:(List.range MQ.size).Pairwise (·< ·):=dM_;let⟨s,o⟩:=C.drew;have o:St U A g S {w with drawn:=w.drawn+1 }:=o;refine(mS.perm hC Q e f2 h).SV F m A g a _ _ z o (E.later s.toLater) λa' w' g' h1 h2 h3=>⟨rfl,g',h1,h2,s.trans h3⟩
end
def bj(P:Program)(U:World)(B:Nat)(q:n0)(Y:AA)(S:ao)(r:AV)(d:Dt):Prop :=∀(n:Nat)(o:Oper),res P.toTables o.op=some q->(sY o.op=true->d=.none_)/\gQ S d.F/\∀T,B<=T.nx->gQ T d.F->(d.m=true->T.nx=S.nx)->jZ P U n o (Y.only (d_ o)) T r (fA T d.W d.m)
def Yf:n0->Bool|.mv _|.pick ..|.build ..|.rows ..|.not _|.Pw ..|.field ..|.extract ..|.Ye ..|.Px _=>true|_=>false
def dq(q:n0)(f:Nat->AV)(S:ao)(rs:List Nat):Option (AV×Dt×List Nat) :=match q with
 |.load k x=>match x.ev f with
  |.ip row=>match xF k row 0 with|some a=>some (a,⟨[],[],false⟩,rs)|none=>none
  |.pt b d i j=>match S.get b with
   |some (.arr c rows fz ex)=>match xJ k S (.pt b d i j) with|some a=>some (a,⟨[(b,.arr c rows fz ex)],[],false⟩,rs)|none=>none
   |_=>none
  |_=>none
 |.store n x b=>match b.ev f,x.ev f with
  |e,.pt k d 0 j=>match S.get k with
   |some (.arr c [row] 0 ex)=>match Nat.beq d c&&(bB e).all dv&&Nat.beq n (bB e).length with
    |true=>match Nat.ble (j+(bB e).length) row.length with|true=>some (.v undef,⟨[(k,.arr c [row] 0 ex)],[(k,some (.arr d [sU row j (bB e)] 0 ex))],false⟩,rs)|false=>none
    |false=>none
   |_=>none
  |_,_=>none
 |.alloc g=>match rs with
  |k::rs=>match S.get k with|some .un=>some (.pt k g.length 0 0,⟨[(k,.un)],[(k,some (.arr g.length [g] 0 true))],false⟩,rs)|_=>none
  |[]=>none
 |.box x=>match(bB (x.ev f)).all dv with|true=>some (.pt S.nx (bB (x.ev f)).length 0 0,⟨[],[(S.nx,some (.arr (bB (x.ev f)).length [bB (x.ev f)] 0 true))],true⟩,rs)|false=>none
 |.call ..=>none|q=>match Yf q with
  |true=>match oO q f S with|some (r,_)=>some (r,⟨[],[],false⟩,rs)|none=>none
  |false=>none
section
variable{d:Dt}
theorem aey(d:Yf q=true)(h:oO q f S=some (r,S'))(T:ao):oO q f T=some (r,T):=by
 have e:∀{a:AV}{b c:ao},some (a,b)=some (r,c)->a=r:=λh=>Z;cases q<;>first|exfalso;cases d;done|skip
 all_goals
  simp only[oO]at h⊢;repeat' split at h
  all_goals first|cases h;done|cases e h;simp only[*];done|cases e h;rfl
theorem bj.NM(h1:∀o,res P.toTables o=some q->sY o=true->d=.none_)(h2:gQ S d.F)(h:∀T,gQ T d.F->(d.m=true->T.nx=S.nx)->∀o,res P.toTables o=some q->b8 P U o Y T (CK r (fA T d.W d.m))):bj P U B q Y S r d:=by intro n o a;refine⟨h1 _ a,h2,λT _ b c=>?_⟩;obtain⟨f,S1,e,rfl,rfl⟩:=qm (n:=n) (h T b c o.op a);exact e
theorem Ur{e:TypeId}{z:Value}{k:Nat}(x:o.op=.alloc e)(y:eL P e=some z)(B:S.get k=some .un)(C:k<S.nx):bt P U n o Y S (.pt k (z.cells.toList.map cT).length 0 0) (S.set k (some (.arr (z.cells.toList.map cT).length [z.cells.toList.map cT] 0 true))):=by
 intro A g a w l M;let⟨b,E⟩:∃b,z.cells.toList.map cT=b:=⟨_,rfl⟩;have r:=tY.cT (g:=g) (w:=w) z.cells;rw[E]at r⊢;have s:¬g.al k:=λh=>(l.dh k _ B h).2.2;have F:St U A g (S.set k (some (.arr b.length [b] 0 true))) w:=l.forget (aj_ _) λj p c t=>by have c:bK S.get k (some (.arr b.length [b] 0 true)) j=some p:=c;rwa[aR _ _ λe=>s Z]at c
 let⟨G,K⟩:=F.newAt (.cells z.cells e) s C 1 (λJ d=>by have d:bK S.get k (some (.arr b.length [b] 0 true)) k=some (.fo J):=d;rw[aK]at d;cases d) (λob f L=>by
  have f:bK S.get k (some (.arr b.length [b] 0 true)) k=some ob:=f;rw[aK]at f;cases oJ_ f;refine⟨z.cells,e,eB,Z,aE,λ_=>rfl,λi row m=>?_,aF_ _,λq=>⟨λu=>?_,λu=>Z⟩⟩;cases i with|succ i=>simp at m|zero =>simp at m;subst m;refine⟨rfl,λj a t=>?_⟩;have c:j<z.cells.size:=Z;exact⟨z.cells[j],aE,(r.2 j a _ t (aM_ c)).later L⟩
  exact absurd (l.dU _ _ u) X);have v:=aT.pt (g:=g.new k w.heap.size 1) (w:=w.alloc (.cells z.cells e)) (k:=k) (sz:=b.length) (i:=0) (j:=0) (.inr rfl);rw[show(g.new k w.heap.size 1).ob k=w.heap.size from aK _ _ _]at v;refine⟨_,_,_,.inl ?_,by simpa using v,K,G⟩;simp[execOp,x,Instr.alloc,rf y,newVar,newRow]
theorem aez{df:List DE}(V:∀k∈rs,k<B)(h:dq q f S rs=some (r,d,Mc)):bj P U B q ⟨f,df⟩ S r d/\∀k∈Mc,k∈rs:=by
 have W:∀{T:ao},Yf q=true->(match oO q f S with|some (r,_)=>some (r,(⟨[],[],false⟩:Dt),rs)|none=>none)=some (r,d,Mc)->bj P U B q ⟨f,df⟩ S r d/\∀k∈Mc,k∈rs:=by intro T s h;split at h;rename_i a C y;simp only[oI_,pI_]at h;obtain⟨rfl,rfl,rfl⟩:=h;exact⟨bj.NM (λ_ _ _=>rfl) (λp s=>Z) λT _ _ o l=>by grind[fA,lR,yj,aey],λ_ t=>t⟩;grind
 have nP:∀{A:Prop},(∀o,res P.toTables o=some q->sY o=true->A)->∀o,res P.toTables o=some q->sY o=true->A:=λh=>h;cases q with
 |load k x =>
  have E:∀o,res P.toTables o=some (.load k x)->sY o=true->d=.none_:=λo l s=>by cases o<;>simp only[res]at l<;>(repeat' split at l)<;>(try cases l)<;>cases s
  have fin:∀{a:AV}{F:List (Nat×Ob)},(∀T,gQ T F->xJ k T (x.ev f)=some a)->gQ S F->some (a,(⟨F,[],false⟩:Dt),rs)=some (r,d,Mc)->bj P U B (.load k x) ⟨f,df⟩ S r d/\∀k∈Mc,k∈rs:=by intro a F h1 h2 h;simp only[oI_,pI_]at h;obtain⟨rfl,rfl,rfl⟩:=h;refine⟨bj.NM E h2 λT u _ o l=>?_,λ_ t=>t⟩;rw[show fA T [] false=T from lR];exact yj (Y:=⟨f,df⟩) l (by grind[oO])
  simp only[dq]at h;split at h;rename_i row y;split at h;rename_i a K;exact fin (λT _=>by rw[y];exact K) (λp s=>Z) h;grind;rename_i b sz i j y;split at h;rename_i v rows fz ex M;split at h;rename_i a K;refine fin (λT u=>?_) (λp s=>Z) h;have wh:T.get b=some (.arr v rows fz ex):=u (b,_) aE;rw[y];simp only[xJ,M,wh]at K⊢;exact K;grind;grind;grind|store m x b =>
  have E:∀o,res P.toTables o=some (.store m x b)->sY o=true->d=.none_:=λo l s=>by cases o<;>simp only[res]at l<;>(repeat' split at l)<;>(try cases l)<;>cases s
  simp only[dq]at h;split at h;rename_i bv k sz j y;split at h;rename_i v row ex t;split at h;rename_i N;split at h;rename_i hl;simp only[oI_,pI_]at h;obtain⟨rfl,rfl,rfl⟩:=h;refine⟨bj.NM E (λp s=>Z) λT u _ o l=>?_,λ_ t=>t⟩;refine yj (Y:=⟨f,df⟩) l ?_;let⟨G,C⟩:=T;have R:G k=some (.arr v [row] 0 ex):=u (k,_) aE;simp only[oO,y,R,N,hl,fA,eD];grind;grind;grind;grind|alloc cs =>
  simp only[dq]at h;split at h
  ·rename_i k rs1;split at h
   ·rename_i t;simp only[oI_,pI_]at h;obtain⟨rfl,rfl,rfl⟩:=h;refine⟨λn o l=>⟨λs=>?_,λp s=>Z,λT M u _=>?_⟩,λ_ h=>Z⟩;·cases J:o.op<;>rw[J]at l s<;>simp only[res]at l<;>(repeat' split at l)<;>(try cases l)<;>cases s
    ·have R:T.get k=some .un:=u (k,_) aE;have bQ:∃e z,o.op=.alloc e/\eL P e=some z/\cs=z.cells.toList.map cT:=by cases J:o.op<;>rw[J]at l<;>simp only[res,lS]at l<;>(repeat' split at l)<;>(try cases l);exact⟨_,_,rfl,Z,rfl⟩
     obtain⟨e,z,J,hz,rfl⟩:=bQ;have e1:fA T [(k,some (.arr (z.cells.toList.map cT).length [z.cells.toList.map cT] 0 true))] false=T.set k (some (.arr (z.cells.toList.map cT).length [z.cells.toList.map cT] 0 true)):=by cases T;rfl
     rw[e1];refineλF mm A g a w nx Q hF hS hA hn=>?_;have az:k<T.nx:=aG_ (V k aE) M;exact((Ur (P:=P) (n:=n) J hz R az).ops λc e=>Z) F mm A g a w nx Q hF hS hA hn
   grind
  grind|box x =>
  have E:∀o,res P.toTables o=some (.box x)->sY o=true->d=.none_:=λo l s=>by cases o<;>simp only[res]at l<;>(repeat' split at l)<;>(try cases l)<;>cases s
  simp only[dq]at h;split at h;rename_i N;simp only[oI_,pI_]at h;obtain⟨rfl,rfl,rfl⟩:=h;refine⟨bj.NM E (λp s=>Z) λT u L o l=>?_,λ_ t=>t⟩;have L:=L rfl;refine yj (Y:=⟨f,df⟩) l ?_;let⟨G,C⟩:=T;simp only at L;subst L;simp only[oO,N,Nn,o9,fA,eD];rfl;grind|call g aZ9=>cases h|_ =>first|exact W (T:=S) rfl h|simp only[dq,Yf]at h;cases h
end
structure QI where
 d:Option Nat
 g:Option (Nat×Bool)q:n0
inductive QC where|skip|bp (dr:Bool) (l:List QI)|kM (V:List (Nat×Nat)) (l:List QI)|seq (a b:QC)|cond (x:QO) (a b:QC)|block (id:Nat) (a:QC)|scope (a:QC)|loop (a:QC)|exit (id:Nat)|ret|XC (x:QO) (ps:List Nat) (a b:QC)|raw (c:Code)
def ux(T:Tables)(n:Nat)(MQ:List Oper):List Oper->Option (List QI)|[]=>some []|o::l=>match tN n o.dst,res T o.op,ux T n MQ l with
  |true,some q,some a=>match o.guard with|none=>some (⟨o.dst,none,q⟩::a)|some (j,b)=>match DA MQ j with|some t=>some (⟨o.dst,some (t,b),q⟩::a)|none=>none
  |_,_,_=>none
def aeA(MQ:Array Oper):Bool:=MQ.toList.any λo=>match o.op with
 |.call c=>match c.callee,c.args.toList with|.builtin .append,.tmp t::_=>MQ.toList.any λp=>(match p.dst with|some d=>Nat.beq d t|none=>false)&&(match p.op with|.call c=>(match c.callee with|.value _=>true|_=>false)|_=>false)|_,_=>false
 |_=>false
def aiX(MQ:Array Oper):Bool:=MQ.toList.any λo=>match o.op with
 |.call c=>match c.callee with|.value (.tmp _)=>true|_=>false
 |_=>false
def aiY(MQ:Array Oper):Bool:=L_ MQ &&!(aeA MQ||aiX MQ)
def asa(T:Tables)(t:TypeId):Bool:=match jc T t with
 |some (.pointer e)=>match jc T e with|some (.struct a)=>Nat.ble 2 (a.toList.filter λf=>match jc T f.type with|some (.map _ _)|some (.slice _)=>true|_=>false).length|_=>false
 |_=>false
def aiZ(MQ:Array Oper):Bool:=MQ.toList.any λo=>match o.op with
 |.call c=>match c.callee,c.args.toList with|.value _,[.tmp t,_,.tmp u] =>(MQ.toList.any λp=>(match p.dst with|some d=>Nat.beq d t|none=>false)&&match p.op with|.call c=>(match c.callee with|.value _=>true|_=>false)|_=>false) &&MQ.toList.any λp=>(match p.dst with|some d=>Nat.beq d u|none=>false)&&(match p.op with|.buildSlice ..=>true|_=>false)|_,_=>false
 |_=>false
def ai0(MQ:Array Oper):Bool:=MQ.toList.any λo=>match o.op with
 |.call c=>match c.callee with
  |.value _=>c.args.toList.any λa=>match a with|.tmp t=>MQ.toList.any λp=>(match p.dst with|some d=>Nat.beq d t|none=>false)&&(match p.op with|.call c=>(match c.callee with|.builtin .append=>true|_=>false)|_=>false)|_=>false
  |_=>false
 |_=>false
def aeB(T:Tables)(MQ:Array Oper):Bool:=aiZ MQ||ai0 MQ||MQ.toList.any λo=>match o.op with
 |.call c=>match c.callee,c.argTypes.toList with|.value _,t::_=>asa T t|_,_=>false
 |_=>false
def Dw(T:Tables)(MQ:Array Oper):Bool:=aiY MQ &&!aeB T MQ
def comp(T:Tables)(n:Nat):Code->Option QC
 |.skip=>some .skip|.label _=>some .skip|.region id MQ dr=>match ux T n MQ.toList MQ.toList with
  |some l=>match dr with|false=>some (.bp false l)|true=>match Dw T MQ with|true=>some (.bp true l)|false=>some (.kM (LX MQ) l)
  |none=>some (.raw (.region id MQ dr))
 |.seq a b=>match comp T n a,comp T n b with|some d,some e=>some (.seq d e)|_,_=>none
 |.cond c a b=>match comp T n a,comp T n b with|some d,some e=>some (.cond (qo c) d e)|_,_=>none
 |.block id a=>match comp T n a with|some d=>some (.block id d)|none=>none
 |.scope a=>match comp T n a with|some d=>some (.scope d)|none=>none
 |.loop a=>match comp T n a with|some d=>some (.loop d)|none=>none
 |.exit id=>some (.exit id)|.ret=>some .ret|.rangeFunc f g a b=>match comp T n a,comp T n b with|some d,some e=>some (.XC (qo f) g.toList d e)|_,_=>none
 |c=>some (.raw c)
def im(P:Program):Code->Bool|.region _ MQ true=>P.follows .mixedOrders&&(Dw P.toTables MQ||IJ MQ)|.seq a b=>im P a&&im P b|.cond _ a b=>im P a&&im P b|.block _ a=>im P a|.scope a=>im P a|.loop a=>im P a|.rangeFunc _ _ a b=>im P a&&im P b|_=>true
inductive iu where|seq (c:QC)|BM (id:Nat)|SX
inductive QF where|run (c:QC) (K:List iu)|out (ex:Exit) (K:List iu)|bp (dr:Bool) (l:List QI) (K:List iu)|kM (B:Nat) (V:List (Nat×Nat)) (lg:List (List Nat×List Nat×Bool)) (rs:List Nat) (l:List QI) (K:List iu)
def Ng(lg:List (List Nat×List Nat×Bool))(i:Nat):List Nat×List Nat×Bool:=lg.getD i ([],[],false)
def wa:List QI->Nat->List Nat|[],_=>[]|i::l,x=>match i.q with|.alloc _=>x::wa l (x+1)|_=>wa l x
def unL(G:Nat->Option Ob):List Nat->Nat->Option Ob|[]=>G|k::ks=>bK (unL G ks) k (some .un)
def Yg(S:ao)(l:List QI):ao:=match S with|⟨G,x⟩=>⟨unL G (wa l x),x+(wa l x).length⟩
def anw(V:List (Nat×Nat))(lg:List (List Nat×List Nat×Bool)):Bool:=V.all λp=>dj (Ng lg p.1) (Ng lg p.2)
section
variable(P:Program)(U:World)(rd:Bool)(n:Nat)
def lF(b:QC)(Q:Exit->AA->ao->Prop)(Y:AA)(S:ao):Prop:=∀c,comp P.toTables n c=some b->im P c=true->Wp P U rd n c Q Y S
def eO(Q:Exit->AA->ao->Prop):List iu->Exit->AA->ao->Prop
 |[]=>Q|.seq b::K=>λex Y S=>match ex with|.normal=>lF P U rd n b (eO Q K) Y S|e=>eO Q K e Y S
 |.BM id::K=>λex Y S=>match ex with|.exit j=>(match Nat.beq j id with|true=>eO Q K .normal Y S|false=>eO Q K (.exit j) Y S)|e=>eO Q K e Y S
 |.SX::K=>λex Y S=>match ex with|.goto _=>False|e=>eO Q K e Y S
def TA(MQ:Array Oper)(l:List Nat)(Y:AA)(S:ao)(ch:List PanicEntry)(aI:AA)(S':ao):Prop :=∀(F:Fence)(m:Nat)(A:Nat->Prop)(g:Gh)(a:Act)(w:World)(Q:Exit->Act->World->Prop),mu F->St U A g S w->cR g w n Y a ->(∀(d:Act)(b:World)(c:Gh),St U A c S' b->cR c b n aI d->Ext A g w c b->Q (.panic ch) d b)->wpOpsIn F m P MQ Q l a w
def EU(MQ l:List Oper)(Q:AA->ao->Prop)(E:List PanicEntry->AA->ao->Prop)(Y:AA)(S:ao):Prop :=∀k,MQ.drop k=l->(∃aI S',Cs P U n MQ.toArray (List.range' k l.length) Y S aI S'/\Q aI S')\/∃ch aI S',TA P U n MQ.toArray (List.range' k l.length) Y S ch aI S'/\E ch aI S'
def lz(dr:Bool)(l:List QI)(Q:AA->ao->Prop)(E:List PanicEntry->AA->ao->Prop)(Y:AA)(S:ao):Prop :=∀MQ FJ,ux P.toTables n MQ FJ=some l->match dr with|false=>EU P U n MQ FJ Q E Y S|true=>qn P U n MQ FJ Q Y S
def tf(B:Nat)(V:List (Nat×Nat))(lg:List (List Nat×List Nat×Bool))(l:List QI)(Q:AA->ao->Prop)(Y:AA)(S:ao):Prop :=∀MQ:List Oper,ux P.toTables n MQ (MQ.drop lg.length)=some l->∃(zzD:Nat->Dt) (aI:AA) (S':ao),mS P U n MQ.toArray B zzD (List.range' lg.length l.length) Y S aI S'/\anw V (lg++(List.range' lg.length l.length).map λi=>(zzD i).ns)=true/\Q aI S'
def I(Q:Exit->AA->ao->Prop):QF->AA->ao->Prop|.run c K,Y,S=>lF P U rd n c (eO P U rd n Q K) Y S|.out ex K,Y,S=>eO P U rd n Q K ex Y S|.bp dr l K,Y,S=>lz P U n dr l (λY S=>eO P U rd n Q K .normal Y S) (λch Y S=>eO P U rd n Q K (.panic ch) Y S) Y S|.kM B V lg rs l K,Y,S=>(∀k∈rs,k<B)->B<=S.nx->tf P U n B V lg l (λY S=>eO P U rd n Q K .normal Y S) Y S
def bJ(f:Nat->AV):Option (Nat×Bool)->Option Bool|none=>some true|some (t,a)=>match f t with
  |.v (.bool true)=>some a|.v (.bool false)=>match a with|true=>some false|false=>some true
  |.v (.tuple _)=>some false|_=>none
def bX(d:Option Nat)(Y:AA)(r:AV):AA:=match Y,d with|⟨f,l⟩,some d=>⟨bK f d r,l⟩|Y,none=>Y
def HZ:QF->AA->ao->Option (QF×AA×ao)
 |.run c K,Y,S=>match c with
  |.skip=>some (.out .normal K,Y,S)|.bp false l=>some (.bp false l K,Y,S)|.bp true l=>some (.bp true l K,Y,S)|.kM V l=>match S with|⟨G,x⟩=>some (.kM (x+(wa l x).length) V [] (wa l x) l K,Y,Yg ⟨G,x⟩ l)
  |.seq a b=>some (.run a (.seq b::K),Y,S)|.cond x a b=>match x.ev Y.tm with|.v (.bool true)=>some (.run a K,Y,S)|.v (.bool false)=>some (.run b K,Y,S)|_=>none
  |.block id c=>some (.run c (.BM id::K),Y,S)|.scope c=>some (.run c (.SX::K),Y,S)|.exit id=>some (.out (.exit id) K,Y,S)|.ret=>some (.out .ret K,Y,S)|_=>none
 |.out ex K,Y,S=>match K with
  |[]=>none|.seq b::K=>match ex with|.normal=>some (.run b K,Y,S)|e=>some (.out e K,Y,S)
  |.BM id::K=>match ex with
   |.exit j=>match Nat.beq j id with|true=>some (.out .normal K,Y,S)|false=>some (.out (.exit j) K,Y,S)
   |e=>some (.out e K,Y,S)
  |.SX::K=>match ex with|.goto _=>none|e=>some (.out e K,Y,S)
 |.bp dr l K,Y,S=>match l with|[]=>some (.out .normal K,Y,S)|i::l=>match bJ Y.tm i.g with
   |some true=>match oO i.q Y.tm S with|some (r,S')=>some (.bp dr l K,bX i.d Y r,S')|none=>none
   |some false=>some (.bp dr l K,bX i.d Y (.v undef),S)|none=>none
 |.kM B V lg rs l K,Y,S=>match l with
  |[]=>match anw V lg with|true=>some (.out .normal K,Y,S)|false=>none
  |i::l=>match bJ Y.tm i.g with
   |some true=>match dq i.q Y.tm S rs with|some (r,d,Mc)=>some (.kM B V (lg++[d.ns]) Mc l K,bX i.d Y r,fA S d.W d.m)|none=>none
   |some false=>some (.kM B V (lg++[([],[],false)]) rs l K,bX i.d Y (.v undef),S)|none=>none
end
section
variable{rd:Bool}{i:QI}{l:List QI}
theorem IV{d:Option Nat}:bX d Y r=A0 d Y r:=by cases d<;>cases Y<;>rfl
theorem uV{MQ:List Oper}(h:ux P.toTables n MQ FJ=some (i::l)):∃o a,FJ=o::a/\ux P.toTables n MQ a=some l/\tN n o.dst=true/\o.dst=i.d/\res P.toTables o.op=some i.q /\∀b,bJ Y.tm i.g=some b->mq MQ Y o=some b:=by cases FJ with|nil=>cases h|cons o a =>simp only[ux]at h;split at h;rename_i q r d e f;split at h;grind[bJ,mq];rename_i j s g;split at h;rename_i t k;injection h with h;injection h with m p;subst m p;refine⟨o,a,rfl,f,d,rfl,e,λb c=>?_⟩;simp only[mq,g,ydL,k];simp only[bJ]at c;split at c;grind;grind;grind;grind;grind;grind
theorem lz.nil(h:R Y S):lz P U n dr [] R E Y S:=by
 intro MQ FJ a;have:FJ=[]:=by cases FJ with|nil=>rfl|cons o r =>
   simp only[ux]at a;repeat' split at a
   all_goals cases a
 subst this;cases dr with|false=>exactλk b=>.inl (HY.nil (MQ:=MQ) h k b)|true=>exact qn.nil h
def V8(P:Program)(U:World)(n:Nat)(o:Oper)(Y:AA)(S:ao)(r:AV)(S':ao):Prop :=jZ P U n o (Y.only (d_ o)) S r S'/\(qw o.op=true->S'=S/\∀S,jZ P U n o (Y.only (d_ o)) S r S)/\(Fe o.op=false->S'=S)
theorem V8.ofD(h:dF P U o.op Y S (CK r S')):V8 P U n o Y S r S':=by cases e:qw o.op with
 |true =>
  let⟨b,a,c⟩:=agt e (Pu h);obtain⟨rfl,rfl⟩:=a;have f:∀T,jZ P U n o (Y.only (d_ o)) T b T:=λT=>by obtain⟨g,S',d,rfl,rfl⟩:=qm (n:=n) (c T);exact d
  exact⟨f _,λ_=>⟨rfl,f⟩,λ_=>rfl⟩|false =>cases i:Fe o.op with|false =>let⟨b,a,c⟩:=agR e i h;obtain⟨rfl,rfl⟩:=a;obtain⟨g,S',d,rfl,rfl⟩:=qm (n:=n) c;exact⟨d,λh=>Z,λ_=>rfl⟩|true =>obtain⟨b,j,a,rfl,rfl⟩:=qm (n:=n) (Pu h);exact⟨a,λh=>Z,λh=>Z⟩
theorem qn.opG{MQ:List Oper}{Q:AA->ao->Prop}(b:tN n o.dst=true)(c:mq MQ Y o=some true)(h:V8 P U n o Y S r S')(k:qn P U n MQ FJ Q (A0 o.dst Y r) S'):qn P U n MQ (o::FJ) Q Y S:=by intro i d;let⟨e,f⟩:=drop_cons d;let⟨aI,T,a,g⟩:=k (i+1) f;rw[zD]at a;exact⟨aI,T,.cons ⟨o,e,b,.inr ⟨v8 c,r,rfl,h⟩⟩ a,g⟩
def D(P:Program)(U:World)(dr:Bool)(q:n0)(Y:AA)(S:ao)(r:AV)(S':ao):Prop :=match dr with|true=>∀(n:Nat)(o:Oper),res P.toTables o.op=some q->V8 P U n o Y S r S'|false=>∀(n:Nat)(o:Oper),res P.toTables o.op=some q->jZ P U n o Y S r S'
theorem jZ.NM{n:Nat}(h:b8 P U o.op Y S (CK r S')):jZ P U n o Y S r S':=by obtain⟨b,S1,a,rfl,rfl⟩:=Hx (n:=n) h;exact a
theorem D.run(h:∀(n:Nat) (o:Oper),res P.toTables o.op=some q->bt P U n o Y S r S'):D P U false q Y S r S':=λn o a=>(h n o a).ops λc e=>by rw[e]at a;cases a
theorem TA.step{MQ:Array Oper}{i:Nat}{FJ:List Nat}{aI:AA}{e:ao}(hi:MQ[i]?=some o)(l:(match o.dst with|some d=>Nat.blt d n|none=>true)=true)(p:∀(g:Gh) (w:World) (a:Act),cR g w n Y a->Region.wanted o (yielded MQ a.tmps)=true)(h:jZ P U n o Y S r e)(k:TA P U n MQ FJ (Y.put o.dst r) e ch aI S'):TA P U n MQ (i::FJ) Y S ch aI S':=by intro F m A g a w Q b q c s;simp only[wpOpsIn,hi];rw[if_pos (p g w a c)];refine⟨λf _=>b.1 f,h F m A g a w _ Q b q c λv t u x y j=>?_⟩;exact k F m A u _ t Q b y (sD (c.later j.toLater) l x) λz B C E G J=>s z B C E G (j.trans J)
theorem H0{MQ:List Oper}(c:mq MQ Y o=some true)(g:Gh)(w:World)(a:Act)(d:cR g w n Y a):Region.wanted o (yielded MQ.toArray a.tmps)=true:=by rcases v8 c with b|⟨j,f,b,e⟩;simp[Region.wanted,b];simp[Region.wanted,b,AO d e]
theorem EU.opS{MQ:List Oper}{Q:AA->ao->Prop}(c:tN n o.dst=true)(d:mq MQ Y o=some true)(h:jZ P U n o Y S r S')(k:EU P U n MQ FJ Q E (A0 o.dst Y r) S'):EU P U n MQ (o::FJ) Q E Y S:=by intro i g;let⟨e,j⟩:=drop_cons g;have f:=k (i+1) j;rw[zD]at f;exact f.imp (λ⟨aI,T,a,b⟩=>⟨aI,T,Cs.step e c (H0 d) h a,b⟩) λ⟨ch,aI,T,a,b⟩=>⟨ch,aI,T,TA.step e c (H0 d) h a,b⟩
theorem EU.skip{MQ:List Oper}{Q:AA->ao->Prop}(q:tN n o.dst=true)(u:mq MQ Y o=some false)(k:EU P U n MQ FJ Q E (A0 o.dst Y (.v undef)) S):EU P U n MQ (o::FJ) Q E Y S:=by
 intro i v;let⟨r,x⟩:=drop_cons v;have s:=k (i+1) x;rw[zD]at s;let⟨j,C,b,y,z,B⟩:=JJ u;have t:∀(g:Gh)(w:World)(a:Act),cR g w n Y a->¬Region.wanted o (yielded MQ.toArray a.tmps)=true:=λg w a c=>by simp[Region.wanted,y,AO c z,B]
 refine s.imp (λ⟨aI,T,e,h⟩=>⟨aI,T,λF m A g a w Q d l c p=>?_,h⟩) λ⟨ch,aI,T,e,h⟩=>⟨ch,aI,T,λF m A g a w Q d l c p=>?_,h⟩;show wpOpsIn F m P MQ.toArray Q (i::List.range' (i+1) FJ.length) a w;simp only[wpOpsIn,r];rw[if_neg (t g w a c)];exact⟨λf _=>d.1 f,e F m A g _ w Q d l (sD c q .v) p⟩;show wpOpsIn F m P MQ.toArray Q (i::List.range' (i+1) FJ.length) a w;simp only[wpOpsIn,r];rw[if_neg (t g w a c)];exact⟨λf _=>d.1 f,e F m A g _ w Q d l (sD c q .v) p⟩
def awx:n0->Bool|.call ..=>true|_=>false
theorem D.of(d:awx q=false)(h:∀o,res P.toTables o=some q->b8 P U o Y S (CK r S')):D P U dr q Y S r S':=by cases dr with|false=>exactλn o a=>jZ.NM (h o.op a)|true =>intro n o a;refine V8.ofD ?_;have b:=h o.op a;generalize o.op=op at a b;cases op with|call c =>simp only[dF];split;rename_i f e;simp only[res,e,oI_]at a;subst a;cases d;grind|_=>exact b
theorem lz.op(b:bJ Y.tm i.g=some true)(h:D P U dr i.q Y S r S')(k:lz P U n dr l R E (bX i.d Y r) S'):lz P U n dr (i::l) R E Y S:=by intro MQ FJ f;obtain⟨o,g,rfl,j,c,m,d,e⟩:=uV (Y:=Y) f;have a:=k MQ g j;rw[IV,<-m]at a;cases dr with|false=>exact EU.opS c (e _ b) (h n o d) a|true=>exact qn.opG c (e _ b) (h n o d) a
theorem lz.skip(b:bJ Y.tm i.g=some false)(k:lz P U n dr l R E (bX i.d Y (.v undef)) S):lz P U n dr (i::l) R E Y S:=by intro MQ FJ e;obtain⟨o,f,rfl,g,c,h,j,d⟩:=uV (Y:=Y) e;have a:=k MQ f g;rw[IV,<-h]at a;cases dr with|false=>exact EU.skip c (d _ b) a|true=>exact qn.skip c (d _ b) a
def OpP(P:Program)(U:World)(n:Nat)(o:Oper)(Y:AA)(S:ao)(ch:List PanicEntry)(S':ao):Prop :=∀(F:Fence)(m:Nat)(A:Nat->Prop)(g:Gh)(a:Act)(w:World)(next:Act->World->Prop)(Q:Exit->Act->World->Prop),mu F->St U A g S w->cR g w n Y a ->(∀(b:World)(c:Gh),St U A c S' b->Ext A g w c b->Q (.panic ch) a b)->o.uponIn F m P a next Q ((o.semAt F.round a.eval).run P w)
def An(P:Program)(U:World)(q:n0)(Y:AA)(S:ao)(ch:List PanicEntry)(S':ao):Prop:=∀(n:Nat)(o:Oper),res P.toTables o.op=some q->OpP P U n o Y S ch S'
theorem lz.I_(e:bJ Y.tm i.g=some true)(h:An P U i.q Y S ch S')(k:E ch Y S'):lz P U n false (i::l) R E Y S:=by intro MQ FJ p;obtain⟨o,q,rfl,B,C,G,r,s⟩:=uV (Y:=Y) p;intro j t;let⟨u,J⟩:=drop_cons t;refine .inr ⟨ch,Y,S',λF m A g a w Q c v b x=>?_,k⟩;show wpOpsIn F m P MQ.toArray Q (j::List.range' (j+1) q.length) a w;simp only[wpOpsIn,u];rw[if_pos (H0 (s _ e) g w a b)];exact⟨λf _=>c.1 f,h n o r F m A g a w _ Q c v b λy z q1 d=>x a y z q1 (b.later d.toLater) d⟩
theorem D.quiet(h:oO q Y.tm S=some (r,S')):D P U dr q Y S r S':=by refine D.of ?_ λo a=>yj a h;cases q<;>first|rfl|cases h
theorem TB(h:comp P.toTables n c=some (.bp dr l)):∃id MQ,c=.region id MQ dr/\ux P.toTables n MQ.toList MQ.toList=some l/\(dr=true->Dw P.toTables MQ=true):=by cases c<;>simp only[comp]at h<;>(repeat' split at h)<;>(try cases h);grind;grind
theorem aeC(h:comp P.toTables n c=some (.kM V l)):∃id MQ,c=.region id MQ true/\ux P.toTables n MQ.toList MQ.toList=some l/\Dw P.toTables MQ=false/\V=LX MQ:=by cases c<;>simp only[comp]at h<;>(repeat' split at h)<;>(try cases h);grind
theorem aeD{a b:QC}(h:comp P.toTables n c=some (.seq a b)):∃d c2,c=.seq d c2/\comp P.toTables n d=some a/\comp P.toTables n c2=some b:=by cases c<;>simp only[comp]at h<;>(repeat' split at h)<;>(try cases h);grind
theorem abi{a b:QC}(h:comp P.toTables n c=some (.cond x a b)):∃y d c2,c=.cond y d c2/\qo y=x/\comp P.toTables n d=some a/\comp P.toTables n c2=some b:=by cases c<;>simp only[comp]at h<;>(repeat' split at h)<;>(try cases h);grind
theorem Yh{id:Nat}{a:QC}(h:comp P.toTables n c=some (.block id a)):∃b,c=.block id b/\comp P.toTables n b=some a:=by cases c<;>simp only[comp]at h<;>(repeat' split at h)<;>(try cases h);grind
theorem Yi{a:QC}(h:comp P.toTables n c=some (.scope a)):∃b,c=.scope b/\comp P.toTables n b=some a:=by cases c<;>simp only[comp]at h<;>(repeat' split at h)<;>(try cases h);grind
theorem NT{a:QC}(h:comp P.toTables n c=some (.loop a)):∃b,c=.loop b/\comp P.toTables n b=some a:=by cases c<;>simp only[comp]at h<;>(repeat' split at h)<;>(try cases h);grind
theorem abj{ps:List Nat}{a b:QC}(h:comp P.toTables n c=some (.XC x ps a b)):∃y pt d c2,c=.rangeFunc y pt d c2/\qo y=x/\pt.toList=ps/\comp P.toTables n d=some a/\comp P.toTables n c2=some b:=by cases c<;>simp only[comp]at h<;>(repeat' split at h)<;>(try cases h);grind
theorem ac7{d:Code}(h:comp P.toTables n c=some (.raw d)):c=d:=by cases c<;>simp only[comp]at h<;>(repeat' split at h)<;>(try cases h)<;>rfl
theorem zn:(comp P.toTables n c=some .skip->SkC c)/\(comp P.toTables n c=some .ret->c=.ret)/\∀id,comp P.toTables n c=some (.exit id)->c=.exit id:=by refine⟨λh=>?_,λh=>?_,λid h=>?_⟩;all_goals cases c<;>simp only[comp]at h<;>(repeat' split at h)<;>(try cases h)<;>first|rfl|exact .inl rfl|exact .inr ⟨_,rfl⟩
theorem asb{x:Operand}:Y.ev x=(qo x).ev Y.tm:=(aY x).symm
theorem lF.seq{a b:QC}(h:lF P U rd n a (λex Y S=>match ex with|.normal=>lF P U rd n b Q Y S|e=>Q e Y S) Y S):lF P U rd n (.seq a b) Q Y S:=by intro c g d;obtain⟨i,j,rfl,k,l⟩:=aeD g;simp only[im,aw_]at d;refine Wp.seq ?_;let⟨ex,m,o,p,f⟩:=h i k d.1;refine⟨ex,m,o,p,?_⟩;cases ex with|normal=>exact f j l d.2|_=>exact f
theorem lF.cond{a b:QC}{t:Bool}(e:x.ev Y.tm=.v (.bool t))(h:lF P U rd n (if t then a else b) Q Y S):lF P U rd n (.cond x a b) Q Y S:=by intro c f d;obtain⟨y,g,i,rfl,rfl,j,k⟩:=abi f;simp only[im,aw_]at d;refine Wp.cond (by rw[asb];exact e) ?_;cases t with|true=>exact h g j d.1|false=>exact h i k d.2
theorem lF.block{id:Nat}{a:QC}(h:lF P U rd n a (λex Y S=>match ex with|.exit j=>(match Nat.beq j id with|true=>Q .normal Y S|false=>Q (.exit j) Y S)|e=>Q e Y S) Y S):lF P U rd n (.block id a) Q Y S:=by intro c b d;obtain⟨f,rfl,g⟩:=Yh b;exact Wp.block (h f g d)
theorem lF.scope{a:QC}(h:lF P U rd n a (λex Y S=>match ex with|.goto _=>False|e=>Q e Y S) Y S):lF P U rd n (.scope a) Q Y S:=by intro c d f;obtain⟨g,rfl,i⟩:=Yi d;let⟨ex,j,k,m,b⟩:=h g i f;cases ex with|goto l=>exact b.elim|_=>exact⟨_,j,k,eE.scope m λl e=>Z,b⟩
theorem lF.bp(h:lz P U n dr l (λY S=>Q .normal Y S) (λch Y S=>Q (.panic ch) Y S) Y S):lF P U rd n (.bp dr l) Q Y S:=by intro c i e;obtain⟨id,MQ,rfl,j,k⟩:=TB i;have f:=h _ _ j;cases dr with|false =>rcases f 0 rfl with⟨aI,S',b,d⟩|⟨ch,aI,S',b,d⟩;rw[bu_,<-ci_]at b;exact⟨_,aI,S',eE.region b,d⟩;rw[bu_,<-ci_]at b;exact⟨.panic ch,aI,S',λF m A g a w o u p q=>wpIn_region (b F m A g a w _ o p q λv x r q1 s t=>⟨rfl,r,q1,s,t⟩),d⟩|true=>exact qn.wp (by simp only[im,aw_]at e;simp only[aw_];exact⟨e.1,((aw_ _ _).mp ((aw_ _ _).mp (k rfl)).1).1⟩) f
theorem OQ{G:Nat->Option Ob}:∀{ks:List Nat}{k:Nat},k∉ks->unL G ks k=G k|[],_,_=>rfl|p::ks,k,h=>by simp only[al_,not_or]at h;rw[unL,aR _ _ h.1,OQ h.2]
theorem EV:∀{l:List QI}{x k:Nat},k∈wa l x->x<=k/\k<x+(wa l x).length|[],x,k,h=>by cases h|i::l,x,k,h=>by simp only[wa]at h⊢;split at h;rename_i e;simp only[e,aH_];rcases al_.1 h with rfl|h;omega;have:=EV h;omega;rename_i e;exact EV h
theorem St.rsv{A:Nat->Prop}{g:Gh}{w:World}(b:St U A g S w)(l:List QI):St U A g (Yg S l) w:=by let⟨G,x⟩:=S;refine b.forget (Nat.le_add_right _ _) λk o a d=>?_;have c:=b.al k d;have c:k<x:=c;have a:unL G (wa l x) k=some o:=a;rwa[OQ λe=>by have:=(EV e).1;omega]at a
theorem lF.kM(h:(∀k∈wa l S.nx,k<S.nx+(wa l S.nx).length)->S.nx+(wa l S.nx).length<=(Yg S l).nx->tf P U n (S.nx+(wa l S.nx).length) V [] l (λY S=>Q .normal Y S) Y (Yg S l)):lF P U rd n (.kM V l) Q Y S:=by
 intro c v d;obtain⟨id,MQ,rfl,r,y,rfl⟩:=aeC v;simp only[im,aw_,cD_,y,bz_,false_or]at d;have z:l.length=MQ.size:=by
  have key:∀(MQ FJ:List Oper)(l:List QI),ux P.toTables n MQ FJ=some l->l.length=FJ.length:=by intro MQ FJ;induction FJ with|nil=>intro l h;cases oJ_ h;rfl|cons o FJ s =>intro l h;cases l with|nil =>exfalso;simp only[ux]at h;split at h;grind;grind|cons i l =>let⟨W,sd,e,b,_⟩:=uV (Y:=Y) h;injection e with B C;subst B C;simp[s _ b]
  rw[key _ _ _ r];simp
 let⟨zzD,aI,S',b,f,E⟩:=h (λk G=>(EV G).2) (by cases S;exact aj_ _) MQ.toList r;simp only[bd_,z,aS_]at b f;rw[<-ci_]at b f;refine⟨.normal,aI,S',λF m A g a w J K L M=>?_,E⟩;refine eE.ar_ d.1 d.2 (λp t=>?_) b F m A g a w J K (L.rsv l) M;have u:=bb_.1 f p t;have N:=(cb_.1 t).1;have j:∀{m:List Nat}{k:Nat}{q:Nat×Nat},q∈IU MQ m k->q.1<k/\q.2<k:=by intro m k q;induction k with|zero=>intro h;cases h|succ k s =>intro h;simp only[IU,aO_,aE_,cb_,aU_]at h;rcases h with⟨x,⟨hx,_⟩,rfl⟩|h;grind;grind
 let⟨R,T⟩:=j N;have get:∀i,i<MQ.size->Ng ((List.range MQ.size).map λi=>(zzD i).ns) i=(zzD i).ns:=λi hi=>by grind[Ng]
 rw[get _ R,get _ T]at u;exact u
def mS.congr{MQ:Array Oper}{zzD a:Nat->Dt}:∀{L:List Nat}{Y aI:AA}{S S':ao},(∀i∈L,zzD i=a i)->mS P U n MQ B zzD L Y S aI S'->mS P U n MQ B a L Y S aI S'|[],_,_,_,_,_,.nil ..=>.nil ..|i::FJ,_,_,_,_,b,.cons h t=>.cons Z (t.congr λj c=>b j Z)
def BV{MQ:List Oper}{k:Nat}(h:MQ.drop k=o::FJ):MQ.toArray[k]?=some o/\MQ.drop (k+1)=FJ:=drop_cons h
theorem tf.step{lg:List (List Nat×List Nat×Bool)}{d:Dt}{R:AA->ao->Prop}(j:∀MQ o FJ,MQ.drop lg.length=o::FJ->tN n o.dst=true->o.dst=i.d->res P.toTables o.op=some i.q->(∀b,bJ Y.tm i.g=some b->mq MQ Y o=some b)->yc P U n MQ.toArray B lg.length d Y S α1 S1)(k:tf P U n B V (lg++[d.ns]) l R α1 S1):tf P U n B V lg (i::l) R Y S:=by intro MQ g;let⟨o,FJ,h,m,p,q,r,s⟩:=uV (Y:=Y) g;let⟨t,u⟩:=BV h;let⟨zzD,aI,S',c,a,k3⟩:=k MQ Z;simp only[ay_,bf_]at c a;refine⟨λi=>if i=lg.length then d else zzD i,aI,S',?_,?_,k3⟩;rw[aH_,cZ_];refine .cons Z (c.congr λi f=>?_);have:=(List.mem_range'_1.1 f).1;rw[if_neg X];rw[aH_,cZ_,aK_];simp only[if_pos];have e:((List.range' (lg.length+1) l.length).map λi=>(if i=lg.length then d else zzD i).ns)=(List.range' (lg.length+1) l.length).map λi=>(zzD i).ns:=aQ_ λi f=>Z;rw[e];rw[bt_]at a;exact a
theorem agW{MQ:List Oper}{b:Bool}(h:mq MQ Y o=some b):(b=true->o.guard=none\/∃j a,o.guard=some (j,a)/\xB MQ.toArray Y j=some (some a))/\(b=false->∃j a c,o.guard=some (j,a)/\xB MQ.toArray Y j=some c/\c≠some a):=by
 refine⟨λe=>v8 Z,λe=>?_⟩;subst e;unfold mq at h;split at h;grind;rename_i j a f;split at h;rename_i d;have:=oJ_ h;subst this;exact⟨j,false,some true,f,by rw[<-FF];exact d,aE⟩;rename_i d;have:=oJ_ h;cases a with|true=>exact⟨j,true,some false,f,by rw[<-FF];exact d,aE⟩|false=>simp at this
 rename_i d;exact⟨j,a,none,f,by rw[<-FF];exact d,aE⟩;grind
theorem tf.op{lg:List (List Nat×List Nat×Bool)}{d:Dt}{R:AA->ao->Prop}(a:B<=S.nx)(b:bJ Y.tm i.g=some true)(h:bj P U B i.q Y S r d)(k:tf P U n B V (lg++[d.ns]) l R (bX i.d Y r) (fA S d.W d.m)):tf P U n B V lg (i::l) R Y S:=by refine tf.step (λMQ o FJ c e f g j=>?_) k;let⟨m,p,k3⟩:=h n o g;exact⟨o,(BV c).1,e,m,a,p,rfl,.inr ⟨(agW (j _ b)).1 rfl,r,by rw[IV,<-f];cases o.dst<;>rfl,λT q s t=>k3 T q s t⟩⟩
theorem tf.skip{lg:List (List Nat×List Nat×Bool)}{R:AA->ao->Prop}(a:B<=S.nx)(b:bJ Y.tm i.g=some false)(k:tf P U n B V (lg++[([],[],false)]) l R (bX i.d Y (.v undef)) S):tf P U n B V lg (i::l) R Y S:=by refine tf.step (d:=.none_) (λMQ o FJ e f g t h=>?_) k;let⟨j,m,c,q,r,s⟩:=(agW (h _ b)).2 rfl;exact⟨o,(BV e).1,f,λ_=>rfl,a,show gQ S [] fromλp u=>Z,lR.symm,.inl ⟨j,m,c,q,r,s,by rw[IV,<-g];cases o.dst<;>rfl,rfl⟩⟩
def lF.done{a:QC}(b:∀c,comp P.toTables n c=some a->Wp P U rd n c Q Y S):lF P U rd n a Q Y S:=λc d _=>b c d
theorem abk{m o:QF}(h:HZ m Y S=some (o,aI,S'))(k:I P U rd n Q o aI S'):I P U rd n Q m Y S:=by have e:∀{x:QF}{y:AA}{z:ao},some (x,y,z)=some (o,aI,S')->I P U rd n Q x y z:=λh=>Z;cases m with
 |run c K =>
  simp only[HZ]at h;split at h;exact lF.done λc a=>Wp.of (eE.skip (zn.1 a)) (e h);exact lF.bp (e h);exact lF.bp (e h);rename_i V l;cases S with|mk G x =>simp only[oI_,pI_]at h;obtain⟨rfl,rfl,rfl⟩:=h;exact lF.kM λg p=>k g p
  exact lF.seq (e h);split at h;rename_i a;exact lF.cond a (e h);rename_i a;exact lF.cond a (e h);grind;exact lF.block (e h);exact lF.scope (e h);exact lF.done λc a=>by rw[zn.2.2 _ a];exact Wp.of (eE.exit_ _) (e h)
  exact lF.done λc a=>by rw[zn.2.1 a];exact Wp.of eE.ret (e h)
  grind|out ex K =>cases K with|nil=>simp[HZ]at h|cons it K =>cases it with
   |seq b=>cases ex<;>(simp only[HZ]at h;have t:=e h;exact t)|BM id =>cases ex with|exit j =>simp only[HZ]at h;show match Nat.beq j id with|true=>eO P U rd n Q K .normal Y S|false=>eO P U rd n Q K (.exit j) Y S;split at h;have t:=e h;exact t;have t:=e h;exact t|_=>simp only[HZ]at h;have t:=e h;exact t
   |SX =>cases ex with|goto l=>simp[HZ]at h|_=>simp only[HZ]at h;have t:=e h;exact t
 |bp dr l K =>simp only[HZ]at h;split at h;exact lz.nil (e h);rename_i i l;split at h;rename_i f;split at h;rename_i r T q;exact lz.op f (D.quiet q) (e h);grind;rename_i f;exact lz.skip f (e h);grind|kM B V lg rs l K =>intro s u;simp only[HZ]at h;split at h;split at h;rename_i a;have g:=e h;exactλMQ _=>⟨λ_=>.none_,Y,S,.nil ..,Z,g⟩;grind;rename_i i l;split at h;rename_i f;split at h;rename_i r d Mc q;let⟨g,p⟩:=aez (P:=P) (U:=U) (df:=Y.df) s q;exact tf.op u f g (e h (λk v=>s k (p k v)) (by grind[ij]));grind;rename_i f;exact tf.skip u f (e h s u);grind
end
end Go.Proofs.YtbdcmpknicjopaaGreat
