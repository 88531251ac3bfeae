import Derived.Test.YtbpabjmnhggajaaGreatOr7
namespace Go.Proofs.YtbpabjmnhggajaaGreat
set_option linter.all false
open Go.RowKit
variable {α1:AA}{dr:Bool}{c:Code}{V:List (Nat × Nat)}{W:List (Nat × Option Ob)}{rest:List Oper}{ch:List PanicEntry}{B i id:Nat}{f:Nat->AV}{o:Oper}{x:QO}{S1:af}{q:mz}
structure Dt where
 F:List (Nat × Ob)
 W:List (Nat × Option Ob)
 m:Bool
def Dt.none_:Dt:=⟨[],[],false⟩
def iC (T:af) (F:List (Nat × Ob)):Prop:=∀p ∈ F,T.get p.1=some p.2
def er (G:Nat->Option Ob):List (Nat × Option Ob)->Nat->Option Ob
 |[]=>G
 |p::W=>bE (er G W) p.1 p.2
def F3:List (Nat × Option Ob)->Bool->Nat
 |_::_::_::_,true=>16
 |_,true=>1
 |_,false=>0
theorem wj:F3 W false=0:=by grind[F3]
def eP (T:af) (W:List (Nat × Option Ob)) (m:Bool):af:=match T,m with|⟨G,x⟩,true=>⟨er G W,x+F3 W true⟩|⟨G,x⟩,false=>⟨er G W,x⟩
theorem gj {T:af}{m:Bool}:eP T W m=⟨er T.get W,T.nx+F3 W m⟩:=by
 cases T;cases m
 ·rw[wj];rfl
 ·rfl
def ED (l m:List Nat):Bool:=l.all λx=>m.all λy=>!Nat.beq x y
theorem Gz {l m:List Nat}(h:ED l m=true) {x y:Nat}(a:x ∈ l) (b:y ∈ m):x ≠ y:=by
 intro e;subst e;have:=aP_.1 (aP_.1 h x a) x b;rw[bp_]at this;cases this
def dj (x y:List Nat × List Nat × Bool):Bool:=ED x.2.1 y.1 && ED x.2.1 y.2.1 && ED x.1 y.2.1 && !(x.2.2 && y.2.2)
def Dt.ns (d:Dt):List Nat × List Nat × Bool:=(d.F.map (·.1),d.W.map (·.1),d.m)
theorem nV {G:Nat->Option Ob}:∀{W:List (Nat × Option Ob)}{k:Nat},k ∉ W.map (·.1)->er G W k=G k
 |[],_,_=>rfl
 |p::W,k,h=>by
  simp only[aC_,ad_,not_or]at h;rw[er,aO _ _ h.1,nV h.2]
theorem Ww {G:Nat->Option Ob}{V:List (Nat × Option Ob)}(h:∀x ∈ W.map (·.1),∀y ∈ V.map (·.1),x ≠ y):er (er G W) V=er (er G V) W:=by
 have key:∀{G H:Nat->Option Ob}{W:List (Nat × Option Ob)}{k:Nat},k ∈ W.map (·.1)->er G W k=er H W k:=by
  intro G H W k
  induction W with
  |nil=>intro h;cases h
  |cons p W a =>
   intro h;by_cases e:k=p.1
   ·subst e;rw[er,er,aJ,aJ]
   ·rw[er,er,aO _ _ e,aO _ _ e];exact a ((ad_.1 h).resolve_left e)
 funext k;by_cases b:k ∈ V.map (·.1)
 ·grind[nV]
 ·grind[nV]
section
variable {P:Program}{w0:World}{n B:Nat}{α aE:AA}{S S':af}{r:AV}{ops:Array Oper}{D:Nat->Dt}
def ql:Op->Bool
 |.buildSlice ..=>false
 |o=>oQ o
theorem zL {o:Op}(h:oQ o=false):ql o=false:=by cases o<;>first|rfl|exact h
def uX (P:Program) (w0:World) (n:Nat) (ops:Array Oper) (B:Nat) (i:Nat) (d:Dt) (α:AA) (S:af) (α1:AA) (S1:af):Prop :=
 ∃o,ops[i]?=some o/\(match o.dst with|some d=>Nat.blt d n|none=>true)=true/\(ql o.op=true->d=.none_)/\B<=S.nx/\iC S d.F/\S1=eP S d.W d.m /\
  ((∃(j:Nat) (want:Bool) (b:Option Bool),o.guard=some (j,want)/\uG ops α j=some b/\b ≠ some want/\α1=α.put o.dst (.v undef)/\d=.none_) \/
   ((o.guard=none\/∃j want,o.guard=some (j,want)/\uG ops α j=some (some want))/\∃r,α1=α.put o.dst r/\∀T,B<=T.nx->iC T d.F->(d.m=true->T.nx=S.nx)->iY P w0 n o (α.only (dH o)) T r (eP T d.W d.m)))
theorem kB:eP S [] false=S:=by cases S;rfl
theorem uX.shape {d:Dt}(h:uX P w0 n ops B i d α S α1 S1):∃o a,ops[i]?=some o/\α1=α.put o.dst a/\iC S d.F/\S1=eP S d.W d.m/\B<=S.nx:=by
 obtain⟨o,e,_,_,f,g,k,h⟩:=h;rcases h with ⟨j,want,b,c,l,m,rfl,_⟩|⟨c,r,rfl,_⟩
 ·grind
 ·grind
theorem uX.anyS {d:Dt}{T:af}(h:uX P w0 n ops B i d α S α1 S1) (a:B<=T.nx) (b:iC T d.F) (g:d.m=true->T.nx=S.nx):uX P w0 n ops B i d α T α1 (eP T d.W d.m):=by
 obtain⟨o,c,e,f,_,j,k,h⟩:=h;refine⟨o,c,e,f,a,b,rfl,?_⟩;rcases h with h|⟨l,r,m,p⟩
 ·grind
 ·grind
theorem uX.frame {l:Dt}{d:Option Tmp}{a:AV}(h:uX P w0 n ops B i l α S α1 S1) (g:∀o,ops[i]?=some o->∀e,d=some e->e ∉ o.looksAt ops/\o.dst ≠ some e):uX P w0 n ops B i l (α.put d a) S (α1.put d a) S1:=by
 obtain⟨o,f,p,q,s,u,v,h⟩:=h;have C:∀e,d=some e->e ∉ dH o:=λe k w=>(g o f e k).1 (yW w);have D:∀j want,o.guard=some (j,want)->∀e,d=some e->(ops[j]?).bind (·.dst) ≠ some e:=by
  intro j want c e k m;refine (g o f e k).1 (az_.2 (.inr ?_));rw[c];simp only;rw[m];simp
 have y:∀x,(α.put o.dst x).put d a=(α.put d a).put o.dst x:=λx=>(put_comm λt z e=>(g o f t z).2 e).symm;refine⟨o,f,p,q,s,u,v,?_⟩;rcases h with ⟨j,want,b,c,A,E,rfl,F⟩|⟨c,r,rfl,m⟩
 ·grind[vc]
 ·refine .inr ⟨?_,r,y _,by grind[BB]⟩;rcases c with c|⟨j,want,c,A⟩
  ·grind
  ·grind[vc]
theorem uX.swap {j:Nat}{g f:Dt}{w A:Oper}{F:AA}{G:af}(hi:ops[i]?=some w) (hj:ops[j]?=some A) (O:w.apart ops A=true) (H:dj g.ns f.ns=true) (h:uX P w0 n ops B i g α S α1 S1) (k:uX P w0 n ops B j f α1 S1 F G) :
  ∃I J,uX P w0 n ops B j f α S I J/\uX P w0 n ops B i g I J F G:=by
 obtain⟨K,Q,R⟩:=Oper.apart_spec O;obtain⟨l,a,mO,rfl,T,rfl,U⟩:=h.shape;obtain rfl:l=w:=by grind
 obtain⟨t,b,lX,rfl,V,rfl,W⟩:=k.shape;obtain rfl:t=A:=by grind
 simp only[dj,Dt.ns,al_,bO_,db_]at H;obtain⟨⟨⟨d1,d2⟩,d3⟩,d4⟩:=H;have X:iC S f.F:=λp m=>by
  have:=V p m;rw[gj]at this;rw[<-this];exact (nV λv=>Gz d1 v (av_.2 ⟨p,m,rfl⟩) rfl).symm
 have C:iC (eP S f.W f.m) g.F:=λp m=>by
  rw[<-T p m,gj];exact nV λv=>Gz d3 (av_.2 ⟨p,m,rfl⟩) v rfl
 have D:eP (eP S f.W f.m) g.W g.m=eP (eP S g.W g.m) f.W f.m:=by grind[gj,Ww,Gz]
 have Y:uX P w0 n ops B j f α S (α.put t.dst b) (eP S f.W f.m):=by
  obtain⟨o,L,Z,m,q0,q1,q2,hk⟩:=k;obtain rfl:o=t:=by grind
  have h1:∀e,l.dst=some e->e ∉ dH o:=λe u v=>K e u (yW v);have h2:∀q want,o.guard=some (q,want)->∀e,l.dst=some e->(ops[q]?).bind (·.dst) ≠ some e:=by
   intro q want E e u s;refine K e u (az_.2 (.inr ?_));rw[E];simp only;rw[s];simp
  have inj:∀x y:AV,(α.put l.dst a).put o.dst x=(α.put l.dst a).put o.dst y->α.put o.dst x=α.put o.dst y:=by
   intro x y M;cases zP:o.dst with
   |none=>rfl
   |some d =>
    rw[zP]at M;have:x=y:=by
     have s:=congrArg (λz:AA=>z.tm d) M;simpa[AA.put,aJ] using s
    rw[this]
  refine⟨o,L,Z,m,U,X,rfl,?_⟩;rcases hk with ⟨q,want,c,E,hy,dm,s,h4⟩|⟨E,r,s,h4⟩
  ·grind[vc]
  ·grind[BB,vc,gj,wj]
 have N:=(h.anyS (by grind[gj]) C (λe=>by grind[gj,wj])).frame (d:=t.dst) (a:=b) λo L e u=>by
  obtain rfl:o=l:=by grind
  exact⟨R e u,λs=>Q e s u⟩
 rw[D,show (α.put l.dst a).put t.dst b=(α.put l.dst a).put t.dst b from rfl]at N;exact⟨_,_,Y,N⟩
inductive lG (P:Program) (w0:World) (n:Nat) (ops:Array Oper) (B:Nat) (D:Nat->Dt):List Nat->AA->af->AA->af->Prop where
 |nil (α:AA) (S:af):lG P w0 n ops B D [] α S α S
 |cons {i:Nat}{rest:List Nat}{α α1 aE:AA}{S S1 S':af}(h:uX P w0 n ops B i (D i) α S α1 S1) (t:lG P w0 n ops B D rest α1 S1 aE S'):lG P w0 n ops B D (i::rest) α S aE S'
def okD (ops:Array Oper) (D:Nat->Dt) (i j:Nat):Prop:=∃a b,ops[i]?=some a/\ops[j]?=some b/\a.apart ops b=true/\dj (D i).ns (D j).ns=true
theorem lG.front {j:Nat}:∀{a b:List Nat}{α aE:AA}{S S':af},(∀x ∈ a,okD ops D x j)->lG P w0 n ops B D (a++j::b) α S aE S'->lG P w0 n ops B D (j::(a++b)) α S aE S'
 |[],b,α,aE,S,S',_,h=>h
 |x::a,b,α,aE,S,S',c,h=>by
  cases h with
  |@cons _ _ _ α1 _ _ S1 _ h t =>
   have d:=lG.front (λy o=>c y (by grind)) t;cases d with
   |@cons _ _ _ p _ _ q _ k t2 =>
    obtain⟨r,s,e,f,g,i⟩:=c x (by simp);obtain⟨u,v,l,m⟩:=h.swap e f g i k;exact .cons l (.cons m t2)
theorem lG.perm:∀{L C:List Nat}{α aE:AA}{S S':af},C.Pairwise (· < ·)->L.Pairwise (λy x=>x < y->okD ops D x y)->(∀x,x ∈ L ↔ x ∈ C)->L.Nodup->lG P w0 n ops B D C α S aE S'->lG P w0 n ops B D L α S aE S'
 |[],C,α,aE,S,S',_,_,c,_,h=>by
  have:C=[]:=by
   cases C with
   |nil=>rfl
   |cons x C=>have:=(c x).2 (by simp);cases this
  subst this;exact h
 |y::L,C,α,aE,S,S',f,d,c,g,h=>by
  obtain⟨i,j,rfl⟩:=List.append_of_mem ((c y).1 (by simp));rw[bP_]at d;rw[bu_]at g;rw[cz_,bP_]at f;obtain⟨m,⟨o,p⟩,k⟩:=f;have q:∀x ∈ i,x < y:=λx e=>k x e y (by simp);have v:∀x ∈ j,y < x:=o;have l:∀x,x ∈ L ↔ x ∈ i++j:=by grind
  have r:=lG.front (λx e=>d.1 x ((l x).2 (by grind)) (q x e)) h;cases r with
  |cons s t =>
   refine .cons s (lG.perm (L:=L) ?_ d.2 l g.2 t);rw[cz_];exact⟨m,p,λa u b w=>k a u b (by grind)⟩
theorem lG.OD:∀{L:List Nat}{α aE:AA}{S S':af},lG P w0 n ops B D L α S aE S'->zn P w0 n ops L α S aE S'
 |[],_,_,_,_,.nil α S=>λF m A g a w Q d l c p=>p a w g l c (Ext.refl ..)
 |i::rest,α,aE,S,S',.cons (α1:=α1) (S1:=S1) h t=>by
  have u:=lG.OD t;obtain⟨o,x,y,Z,G,H,z,h⟩:=h;rcases h with ⟨j,want,b,k,q,I,rfl,J⟩|⟨k,r,rfl,s⟩
  ·have e:S1=S:=by rw[z,J];exact kB
   subst e;intro F m A g a w Q d l c p;have K:¬ Region.wanted o (yielded ops a.tmps)=true:=by simp[Region.wanted,k,xG c q,I]
   simp only[wpOpsIn,x];rw[if_neg K];exact⟨λf _=>d.1 f,u F m A g _ w Q d l (pU c y .v) p⟩
  ·intro F m A g a w Q d l c p;have M:Region.wanted o (yielded ops a.tmps)=true:=by
    rcases k with k|⟨j,want,k,q⟩
    ·simp[Region.wanted,k]
    ·simp[Region.wanted,k,xG c q]
   simp only[wpOpsIn,x];rw[if_pos M];have C:=s S G H (λ_=>rfl);rw[<-z]at C;refine⟨λf _=>d.1 f,C F m A g a w _ Q d l (c.only _) λv N O R T E=>?_⟩;exact u F m A O _ N Q d T (pU (c.later E.toLater) y R) λU V W X Y s=>p U V W X Y (E.trans s)
def EE (ops:Array Oper) (m:List Nat):Nat->List (Nat × Nat)
 |0=>[]
 |y+1=>((List.range y).filter λx=>!(m.getD y 0).testBit x).map (λx=>(x,y))++EE ops m y
def F7 (ops:Array Oper) (i:Nat):Bool:=match ops[i]? with|some o=>ql o.op|none=>true
def apB (ops:Array Oper) (x y:Nat):Bool:=match ops[x]?,ops[y]? with|some a,some b=>a.apart ops b|_,_=>false
def abf (ops:Array Oper):List (Nat × Nat):=EE ops (beforeL [] ops.toList) ops.size
def HO (ops:Array Oper):List (Nat × Nat):=(abf ops).filter λp=>!F7 ops p.1 && !F7 ops p.2
def Er (ops:Array Oper):Bool:=r4 0 ops.toList && (abf ops).all λp=>apB ops p.1 p.2
theorem KK {m:List Nat}:∀{k x y:Nat},y < k->x < y->(m.getD y 0).testBit x=false->(x,y) ∈ EE ops m k
 |0,x,y,h,_,_=>by omega
 |k+1,x,y,h,a,b=>by
  simp only[EE,az_];by_cases c:y=k
  ·grind
  ·exact .inr (KK (by omega) a b)
theorem Wx {y:List Nat × List Nat × Bool}:dj Dt.none_.ns y=true:=by simp[dj,Dt.none_,Dt.ns,ED]
theorem Wy {x:List Nat × List Nat × Bool}:dj x Dt.none_.ns=true:=by simp[dj,Dt.none_,Dt.ns,ED]
theorem lG.dat:∀{L:List Nat}{α aE:AA}{S S':af},lG P w0 n ops B D L α S aE S'->∀i ∈ L,F7 ops i=true->D i=.none_
 |_,_,_,_,_,.nil ..,i,a,_=>by grind
 |_,_,_,_,_,.cons h t,i,a,b=>by
  rcases ad_.1 a with rfl|a
  ·obtain⟨o,c,_,d,_⟩:=h;simp only[F7,c]at b;exact d b
  ·exact lG.dat t i a b
theorem dN.akt {rd:Bool}(u:P.follows .mixedOrders=true) (q:Er ops=true) (v:∀p ∈ HO ops,dj (D p.1).ns (D p.2).ns=true) (h:lG P w0 n ops B D (List.range ops.size) α S aE S'):dN P w0 rd n (.region id ops true) α S .normal aE S':=by
 intro F m A g a w z Z C E;simp only[Er,al_]at q;obtain⟨G,H⟩:=q;refine wpIn_region_draw λt=>?_;simp only[Region.schedule,u,cA_,if_true];have I:EC ops (Array.replicate ops.size false):=⟨by simp,λy x b=>by
  simp only[aT_,cB_]at b;split at b<;>simp at b⟩
 obtain⟨f1,f2,f3,f4⟩:=y6 G ops.size t _ I;have e:∀x,x ∈ Region.linearise .any ops t ↔ x ∈ List.range ops.size:=by
  intro x;refine⟨λd=>by simpa using (f1 x d).1,λd=>?_⟩;have d:x < ops.size:=by grind
  by_cases c:x ∈ Region.linearise .any ops t
  ·grind
  ·exfalso;have J:=f4 ⟨x,d,by simp[aT_,cB_,d],c⟩;have K:(x::Region.linearise.go .any ops ops.size t (Array.replicate ops.size false) []).Nodup:=by
    rw[bu_];exact⟨c,f2⟩
   have hlen:=KH (x::Region.linearise.go .any ops ops.size t (Array.replicate ops.size false) []) K ops.size (λy b=>by grind);rw[aw_,J]at hlen;omega
 have L:(Region.linearise .any ops t).Pairwise (λy x=>x < y->okD ops D x y):=by
  refine ds_ ?_ f3;intro y x b d M N;have r:=KK (ops:=ops) (f1 y b).1 N M;have f:=aP_.1 H _ r;unfold apB at f;split at f
  ·rename_i O Q R T;refine⟨O,Q,R,T,f,?_⟩;have i:x ∈ List.range ops.size:=(e x).1 d;have j:y ∈ List.range ops.size:=(e y).1 b;cases k:F7 ops x with
   |true=>rw[h.dat x i k];exact Wx
   |false =>
    cases l:F7 ops y with
    |true=>rw[h.dat y j l];exact Wy
    |false=>exact v (x,y) (bB_.2 ⟨r,by grind⟩)
  ·grind
 have U:(List.range ops.size).Pairwise (· < ·):=dt_;obtain⟨s,o⟩:=C.drew;have o:St w0 A g S { w with drawn:=w.drawn+1 }:=o;refine (lG.perm U L e f2 h).OD F m A g a _ _ z o (E.later s.toLater) λa' w' V W X Y=>⟨rfl,V,W,X,s.trans Y⟩
end
def a_ (P:Program) (w0:World) (B:Nat) (q:mz) (α:AA) (S:af) (r:AV) (d:Dt):Prop :=
 ∀(n:Nat) (o:Oper),res P.toTables o.op=some q->(ql o.op=true->d=.none_)/\iC S d.F/\∀T,B<=T.nx->iC T d.F->(d.m=true->T.nx=S.nx)->iY P w0 n o (α.only (dH o)) T r (eP T d.W d.m)
def TG:mz->Bool
 |.mv _|.pick ..|.build ..|.rows ..|.not _|.KR ..|.field ..|.extract ..|.RU ..|.KS _=>true
 |_=>false
def dq (q:mz) (f:Nat->AV) (S:af) (rs:List Nat):Option (AV × Dt × List Nat) :=
 match q with
 |.load k x=>match x.ev f with
  |.ip row=>match uI k row 0 with
   |some a=>some (a,⟨[],[],false⟩,rs)
   |none=>none
  |.pt b d i j=>match S.get b with
   |some (.arr c rows fz ex)=>match uT k S (.pt b d i j) with
    |some a=>some (a,⟨[(b,.arr c rows fz ex)],[],false⟩,rs)
    |none=>none
   |_=>none
  |_=>none
 |.store n x b=>match b.ev f,x.ev f with
  |e,.pt k d 0 j=>match S.get k with
   |some (.arr c [row] 0 ex)=>match Nat.beq d c && (a7 e).all dh && Nat.beq n (a7 e).length with
    |true=>match Nat.ble (j+(a7 e).length) row.length with
     |true=>some (.v undef,⟨[(k,.arr c [row] 0 ex)],[(k,some (.arr d [qk row j (a7 e)] 0 ex))],false⟩,rs)
     |false=>none
    |false=>none
   |_=>none
  |_,_=>none
 |.alloc g=>match rs with
  |k::rs=>match S.get k with
   |some .un=>some (.pt k g.length 0 0,⟨[(k,.un)],[(k,some (.arr g.length [g] 0 true))],false⟩,rs)
   |_=>none
  |[]=>none
 |.box x=>match (a7 (x.ev f)).all dh with
  |true=>some (.pt S.nx (a7 (x.ev f)).length 0 0,⟨[],[(S.nx,some (.arr (a7 (x.ev f)).length [a7 (x.ev f)] 0 true))],true⟩,rs)
  |false=>none
 |.call ..=>none
 |q=>match TG q with
  |true=>match mS q f S with
   |some (r,_)=>some (r,⟨[],[],false⟩,rs)
   |none=>none
  |false=>none
section
variable {P:Program}{w0:World}{n B:Nat}{o:Oper}{α:AA}{S S':af}{r:AV}{q:mz}{d:Dt}{rs Ii:List Nat}
theorem Zm (b:TG q=true) (h:mS q f S=some (r,S')) (T:af):mS q f T=some (r,T):=by
 have e:∀{a:AV}{X Y:af},some (a,X)=some (r,Y)->a=r:=λh=>by grind
 cases q<;>first|(exfalso;cases b;done)|skip
 all_goals
  simp only[mS]at h ⊢
  repeat' split at h
  all_goals first
   |cases h;done
   |obtain rfl:=e h;simp only[*];done
   |obtain rfl:=e h;rfl
theorem a_.JE (h1:∀o,res P.toTables o=some q->ql o=true->d=.none_) (h2:iC S d.F) (h:∀T,iC T d.F->(d.m=true->T.nx=S.nx)->∀o,res P.toTables o=some q->bu P w0 o α T (wJ r (eP T d.W d.m))):a_ P w0 B q α S r d:=by
 intro n o a;refine⟨h1 _ a,h2,λT _ b c=>?_⟩;obtain⟨f,S1,e,rfl,rfl⟩:=n0 (n:=n) (h T b c o.op a);exact e
theorem Pz {e:TypeId}{z:Value}{k:Nat}(x:o.op=.alloc e) (y:d_ P e=some z) (B:S.get k=some .un) (C:k < S.nx):a8 P w0 n o α S (.pt k (z.cells.toList.map cK).length 0 0) (S.set k (some (.arr (z.cells.toList.map cK).length [z.cells.toList.map cK] 0 true))):=by
 intro A g a w l I;obtain⟨b,D⟩:∃b,z.cells.toList.map cK=b:=⟨_,rfl⟩;have r:=qR.cK (g:=g) (w:=w) z.cells;rw[D]at r ⊢;have s:¬ g.al k:=λh=>(l.cT k _ B h).2.2;have E:St w0 A g (S.set k (some (.arr b.length [b] 0 true))) w:=l.forget (ac_ _) λj p c t=>by
  have c:bE S.get k (some (.arr b.length [b] 0 true)) j=some p:=c
  rwa [aO _ _ (λe=>s (by grind))]at c
 obtain⟨F,G⟩:=E.newAt (.cells z.cells e) s C 1 (λJ d=>by
  have d:bE S.get k (some (.arr b.length [b] 0 true)) k=some (.fo J):=d;rw[aJ]at d;cases d) (λob f H=>by
  have f:bE S.get k (some (.arr b.length [b] 0 true)) k=some ob:=f;rw[aJ]at f;obtain rfl:=oJ_ f;refine⟨z.cells,e,dZ,by grind,by simp,λ_=>rfl,λi row m=>?_,ax_ _,λq=>⟨λu=>?_,λu=>by grind⟩⟩
  ·cases i with
   |succ i=>simp at m
   |zero =>
    simp at m;subst m;refine⟨rfl,λj a t=>?_⟩;have c:j < z.cells.size:=by grind
    exact⟨z.cells[j],by simp,(r.2 j a _ t (aG_ c)).later H⟩
  ·exact absurd (l.dw _ _ u) (by omega))
 have v:=aN.pt (g:=g.new k w.heap.size 1) (w:=w.alloc (.cells z.cells e)) (k:=k) (sz:=b.length) (i:=0) (j:=0) (.inr rfl);rw[show (g.new k w.heap.size 1).ob k=w.heap.size from aJ _ _ _]at v;refine⟨_,_,_,.inl ?_,by simpa using v,G,F⟩;simp[execOp,x,Instr.alloc,o8 y,newVar,newRow]
theorem Zn {df:List DE}(L:∀k ∈ rs,k < B) (h:dq q f S rs=some (r,d,Ii)):a_ P w0 B q ⟨f,df⟩ S r d/\∀k ∈ Ii,k ∈ rs:=by
 have M:∀{T:af},TG q=true->(match mS q f S with|some (r,_)=>some (r,(⟨[],[],false⟩:Dt),rs)|none=>none)=some (r,d,Ii)->a_ P w0 B q ⟨f,df⟩ S r d/\∀k ∈ Ii,k ∈ rs:=by
  intro T s h;split at h
  ·rename_i a X y;simp only[oI_,pI_]at h;obtain⟨rfl,rfl,rfl⟩:=h;exact⟨a_.JE (λ_ _ _=>rfl) (λp s=>by grind) λT _ _ o l=>by grind[eP,kB,vg,Zm],λ_ t=>t⟩
  ·grind
 have nP:∀{A:Prop},(∀o,res P.toTables o=some q->ql o=true->A)->∀o,res P.toTables o=some q->ql o=true->A:=λh=>h;cases q with
 |load k x =>
  have C:∀o,res P.toTables o=some (.load k x)->ql o=true->d=.none_:=λo l s=>by
   cases o<;>simp only[res]at l<;>(repeat' split at l)<;>(try cases l)<;>cases s
  have fin:∀{a:AV}{F:List (Nat × Ob)},(∀T,iC T F->uT k T (x.ev f)=some a)->iC S F->some (a,(⟨F,[],false⟩:Dt),rs)=some (r,d,Ii)->a_ P w0 B (.load k x) ⟨f,df⟩ S r d/\∀k ∈ Ii,k ∈ rs:=by
   intro a F h1 N h;simp only[oI_,pI_]at h;obtain⟨rfl,rfl,rfl⟩:=h;refine⟨a_.JE C N λT u _ o l=>?_,λ_ t=>t⟩;rw[show eP T [] false=T from kB];exact vg (α:=⟨f,df⟩) l (by grind[mS])
  simp only[dq]at h;split at h
  ·rename_i row y;split at h
   ·rename_i a E;exact fin (λT _=>by rw[y];exact E) (λp s=>by grind) h
   ·grind
  ·rename_i b O i j y;split at h
   ·rename_i v rows fz ex I;split at h
    ·rename_i a E;refine fin (λT u=>?_) (λp s=>by grind) h;have R:T.get b=some (.arr v rows fz ex):=u (b,_) (by simp);rw[y];simp only[uT,I,R]at E ⊢;exact E
    ·grind
   ·grind
  ·grind
 |store m x b =>
  have C:∀o,res P.toTables o=some (.store m x b)->ql o=true->d=.none_:=λo l s=>by
   cases o<;>simp only[res]at l<;>(repeat' split at l)<;>(try cases l)<;>cases s
  simp only[dq]at h;split at h
  ·rename_i bv k O j y;split at h
   ·rename_i v row ex t;split at h
    ·rename_i J;split at h
     ·rename_i U;simp only[oI_,pI_]at h;obtain⟨rfl,rfl,rfl⟩:=h;refine⟨a_.JE C (λp s=>by grind) λT u _ o l=>?_,λ_ t=>t⟩;refine vg (α:=⟨f,df⟩) l ?_;obtain⟨G,X⟩:=T;have K:G k=some (.arr v [row] 0 ex):=u (k,_) (by simp);simp only[mS,y,K,J,U,eP,er]
     ·grind
    ·grind
   ·grind
  ·grind
 |alloc V =>
  simp only[dq]at h;split at h
  ·rename_i k W;split at h
   ·rename_i t;simp only[oI_,pI_]at h;obtain⟨rfl,rfl,rfl⟩:=h;refine⟨λn o l=>⟨λs=>?_,λp s=>by grind,λT I u _=>?_⟩,λ_ h=>by grind⟩
    ·cases D:o.op<;>rw[D]at l s<;>simp only[res]at l<;>(repeat' split at l)<;>(try cases l)<;>cases s
    ·have K:T.get k=some .un:=u (k,_) (by simp);have Y:∃e z,o.op=.alloc e/\d_ P e=some z/\V=z.cells.toList.map cK:=by
      cases D:o.op<;>rw[D]at l<;>simp only[res,ky]at l<;>(repeat' split at l)<;>(try cases l)
      exact⟨_,_,rfl,by grind,rfl⟩
     obtain⟨e,z,D,Z,rfl⟩:=Y;have e1:eP T [(k,some (.arr (z.cells.toList.map cK).length [z.cells.toList.map cK] 0 true))] false=T.set k (some (.arr (z.cells.toList.map cK).length [z.cells.toList.map cK] 0 true)):=by cases T;rfl
     rw[e1];refineλF mm A g a w nx Q hF hS hA hn=>?_;have aw:k < T.nx:=au_ (L k (by simp)) I;exact ((Pz (P:=P) (n:=n) D Z K aw).ops λc e=>by grind) F mm A g a w nx Q hF hS hA hn
   ·grind
  ·grind
 |box x =>
  have C:∀o,res P.toTables o=some (.box x)->ql o=true->d=.none_:=λo l s=>by
   cases o<;>simp only[res]at l<;>(repeat' split at l)<;>(try cases l)<;>cases s
  simp only[dq]at h;split at h
  ·rename_i J;simp only[oI_,pI_]at h;obtain⟨rfl,rfl,rfl⟩:=h;refine⟨a_.JE C (λp s=>by grind) λT u H o l=>?_,λ_ t=>t⟩;have H:=H rfl;refine vg (α:=⟨f,df⟩) l ?_;obtain⟨G,X⟩:=T;simp only at H;subst H;simp only[mS,J,AD,nr,eP,er]
   rfl
  ·grind
 |call g aZ9=>cases h
 |_ =>
  first
  |exact M (T:=S) rfl h
  |simp only[dq,TG]at h;cases h
end
structure QI where
 d:Option Nat
 g:Option (Nat × Bool)
 q:mz
inductive QC where
 |skip
 |bc (dr:Bool) (l:List QI)
 |j6 (V:List (Nat × Nat)) (l:List QI)
 |seq (a b:QC)
 |cond (x:QO) (a b:QC)
 |block (id:Nat) (a:QC)
 |scope (a:QC)
 |loop (a:QC)
 |exit (id:Nat)
 |ret
 |RQ (x:QO) (ps:List Nat) (a b:QC)
 |raw (c:Code)
def qX (T:Tables) (n:Nat) (ops:List Oper):List Oper->Option (List QI)
 |[]=>some []
 |o::l=>match qE n o.dst,res T o.op,qX T n ops l with
  |true,some q,some a=>match o.guard with
   |none=>some (⟨o.dst,none,q⟩::a)
   |some (j,want)=>match A0 ops j with
    |some t=>some (⟨o.dst,some (t,want),q⟩::a)
    |none=>none
  |_,_,_=>none
def Zo (ops:Array Oper):Bool:=ops.toList.any λo=>match o.op with
 |.call c=>match c.callee,c.args.toList with
  |.builtin .append,.tmp t::_=>ops.toList.any λp=>(match p.dst with|some d=>Nat.beq d t|none=>false) && (match p.op with|.call c=>(match c.callee with|.value _=>true|_=>false)|_=>false)
  |_,_=>false
 |_=>false
def acX (ops:Array Oper):Bool:=ops.toList.any λo=>match o.op with
 |.call c=>match c.callee with
  |.value (.tmp _)=>true
  |_=>false
 |_=>false
def acY (ops:Array Oper):Bool:=Ic ops && !(Zo ops || acX ops)
def aku (T:Tables) (t:TypeId):Bool:=match gU T t with
 |some (.pointer e)=>match gU T e with
  |some (.struct a)=>Nat.ble 2 (a.toList.filter λf=>match gU T f.type with|some (.map _ _)|some (.slice _)=>true|_=>false).length
  |_=>false
 |_=>false
def acZ (ops:Array Oper):Bool:=ops.toList.any λo=>match o.op with
 |.call c=>match c.callee,c.args.toList with
  |.value _,[.tmp t,_,.tmp u] =>
   (ops.toList.any λp=>(match p.dst with|some d=>Nat.beq d t|none=>false) && (match p.op with|.call c=>(match c.callee with|.value _=>true|_=>false)|_=>false)) &&
   (ops.toList.any λp=>(match p.dst with|some d=>Nat.beq d u|none=>false) && (match p.op with|.buildSlice ..=>true|_=>false))
  |_,_=>false
 |_=>false
def ac0 (ops:Array Oper):Bool:=ops.toList.any λo=>match o.op with
 |.call c=>match c.callee with
  |.value _=>c.args.toList.any λa=>match a with
   |.tmp t=>ops.toList.any λp=>(match p.dst with|some d=>Nat.beq d t|none=>false) && (match p.op with|.call c=>(match c.callee with|.builtin .append=>true|_=>false)|_=>false)
   |_=>false
  |_=>false
 |_=>false
def Zp (T:Tables) (ops:Array Oper):Bool:=acZ ops || ac0 ops || ops.toList.any λo=>match o.op with
 |.call c=>match c.callee,c.argTypes.toList with
  |.value _,t::_=>aku T t
  |_,_=>false
 |_=>false
def AF (T:Tables) (ops:Array Oper):Bool:=acY ops && !Zp T ops
def comp (T:Tables) (n:Nat):Code->Option QC
 |.skip=>some .skip
 |.label _=>some .skip
 |.region id ops dr=>match qX T n ops.toList ops.toList with
  |some l=>match dr with
   |false=>some (.bc false l)
   |true=>match AF T ops with
    |true=>some (.bc true l)
    |false=>some (.j6 (HO ops) l)
  |none=>some (.raw (.region id ops dr))
 |.seq a b=>match comp T n a,comp T n b with
  |some d,some e=>some (.seq d e)
  |_,_=>none
 |.cond c a b=>match comp T n a,comp T n b with
  |some d,some e=>some (.cond (qo c) d e)
  |_,_=>none
 |.block id a=>match comp T n a with
  |some d=>some (.block id d)
  |none=>none
 |.scope a=>match comp T n a with
  |some d=>some (.scope d)
  |none=>none
 |.loop a=>match comp T n a with
  |some d=>some (.loop d)
  |none=>none
 |.exit id=>some (.exit id)
 |.ret=>some .ret
 |.rangeFunc f g a b=>match comp T n a,comp T n b with
  |some d,some e=>some (.RQ (qo f) g.toList d e)
  |_,_=>none
 |c=>some (.raw c)
def fP (P:Program):Code->Bool
 |.region _ ops true=>P.follows .mixedOrders && (AF P.toTables ops || Er ops)
 |.seq a b=>fP P a && fP P b
 |.cond _ a b=>fP P a && fP P b
 |.block _ a=>fP P a
 |.scope a=>fP P a
 |.loop a=>fP P a
 |.rangeFunc _ _ a b=>fP P a && fP P b
 |_=>true
inductive f_ where
 |seq (c:QC)
 |yb (id:Nat)
 |LG
inductive QF where
 |run (c:QC) (K:List f_)
 |out (ex:Exit) (K:List f_)
 |bc (dr:Bool) (l:List QI) (K:List f_)
 |j6 (B:Nat) (V:List (Nat × Nat)) (lg:List (List Nat × List Nat × Bool)) (rs:List Nat) (l:List QI) (K:List f_)
def I7 (lg:List (List Nat × List Nat × Bool)) (i:Nat):List Nat × List Nat × Bool:=lg.getD i ([],[],false)
def tr:List QI->Nat->List Nat
 |[],_=>[]
 |i::l,x=>match i.q with|.alloc _=>x::tr l (x+1)|_=>tr l x
def Wz (G:Nat->Option Ob):List Nat->Nat->Option Ob
 |[]=>G
 |k::ks=>bE (Wz G ks) k (some .un)
def TH (S:af) (l:List QI):af:=match S with|⟨G,x⟩=>⟨Wz G (tr l x),x+(tr l x).length⟩
def ahv (V:List (Nat × Nat)) (lg:List (List Nat × List Nat × Bool)):Bool:=V.all λp=>dj (I7 lg p.1) (I7 lg p.2)
section
variable (P:Program) (w0:World) (rd:Bool) (n:Nat)
def j7 (b:QC) (Q:Exit->AA->af->Prop) (α:AA) (S:af):Prop:=∀c,comp P.toTables n c=some b->fP P c=true->Wp P w0 rd n c Q α S
def dS (Q:Exit->AA->af->Prop):List f_->Exit->AA->af->Prop
 |[]=>Q
 |.seq b::K=>λex α S=>match ex with|.normal=>j7 P w0 rd n b (dS Q K) α S|e=>dS Q K e α S
 |.yb id::K=>λex α S=>match ex with|.exit j=>(match Nat.beq j id with|true=>dS Q K .normal α S|false=>dS Q K (.exit j) α S)|e=>dS Q K e α S
 |.LG::K=>λex α S=>match ex with|.goto _=>False|e=>dS Q K e α S
def O2 (ops:Array Oper) (l:List Nat) (α:AA) (S:af) (ch:List PanicEntry) (aE:AA) (S':af):Prop :=
 ∀(F:Fence) (m:Nat) (A:Nat->Prop) (g:Gh) (a:Act) (w:World) (Q:Exit->Act->World->Prop),kW F->St w0 A g S w->cA g w n α a ->
  (∀(d:Act) (b:World) (c:Gh),St w0 A c S' b->cA c b n aE d->Ext A g w c b->Q (.panic ch) d b)->wpOpsIn F m P ops Q l a w
def BM (ops l:List Oper) (Q:AA->af->Prop) (E:List PanicEntry->AA->af->Prop) (α:AA) (S:af):Prop :=
 ∀k,ops.drop k=l->(∃aE S',zn P w0 n ops.toArray (List.range' k l.length) α S aE S'/\Q aE S')\/∃ch aE S',O2 P w0 n ops.toArray (List.range' k l.length) α S ch aE S'/\E ch aE S'
def jB (dr:Bool) (l:List QI) (Q:AA->af->Prop) (E:List PanicEntry->AA->af->Prop) (α:AA) (S:af):Prop :=
 ∀ops rest,qX P.toTables n ops rest=some l->match dr with|false=>BM P w0 n ops rest Q E α S|true=>n_ P w0 n ops rest Q α S
def qi (B:Nat) (V:List (Nat × Nat)) (lg:List (List Nat × List Nat × Bool)) (l:List QI) (Q:AA->af->Prop) (α:AA) (S:af):Prop :=
 ∀ops:List Oper,qX P.toTables n ops (ops.drop lg.length)=some l->∃(D:Nat->Dt) (aE:AA) (S':af),lG P w0 n ops.toArray B D (List.range' lg.length l.length) α S aE S'/\ahv V (lg++(List.range' lg.length l.length).map λi=>(D i).ns)=true/\Q aE S'
def ad (Q:Exit->AA->af->Prop):QF->AA->af->Prop
 |.run c K,α,S=>j7 P w0 rd n c (dS P w0 rd n Q K) α S
 |.out ex K,α,S=>dS P w0 rd n Q K ex α S
 |.bc dr l K,α,S=>jB P w0 n dr l (λα S=>dS P w0 rd n Q K .normal α S) (λch α S=>dS P w0 rd n Q K (.panic ch) α S) α S
 |.j6 B V lg rs l K,α,S=>(∀k ∈ rs,k < B)->B<=S.nx->qi P w0 n B V lg l (λα S=>dS P w0 rd n Q K .normal α S) α S
def bG (f:Nat->AV):Option (Nat × Bool)->Option Bool
 |none=>some true
 |some (t,want)=>match f t with
  |.v (.bool true)=>some want
  |.v (.bool false)=>match want with|true=>some false|false=>some true
  |.v (.tuple _)=>some false
  |_=>none
def bP (d:Option Nat) (α:AA) (r:AV):AA:=match α,d with|⟨f,l⟩,some d=>⟨bE f d r,l⟩|α,none=>α
def Cu:QF->AA->af->Option (QF × AA × af)
 |.run c K,α,S=>match c with
  |.skip=>some (.out .normal K,α,S)
  |.bc false l=>some (.bc false l K,α,S)
  |.bc true l=>some (.bc true l K,α,S)
  |.j6 V l=>match S with|⟨G,x⟩=>some (.j6 (x+(tr l x).length) V [] (tr l x) l K,α,TH ⟨G,x⟩ l)
  |.seq a b=>some (.run a (.seq b::K),α,S)
  |.cond x a b=>match x.ev α.tm with
   |.v (.bool true)=>some (.run a K,α,S)
   |.v (.bool false)=>some (.run b K,α,S)
   |_=>none
  |.block id c=>some (.run c (.yb id::K),α,S)
  |.scope c=>some (.run c (.LG::K),α,S)
  |.exit id=>some (.out (.exit id) K,α,S)
  |.ret=>some (.out .ret K,α,S)
  |_=>none
 |.out ex K,α,S=>match K with
  |[]=>none
  |.seq b::K=>match ex with
   |.normal=>some (.run b K,α,S)
   |e=>some (.out e K,α,S)
  |.yb id::K=>match ex with
   |.exit j=>match Nat.beq j id with
    |true=>some (.out .normal K,α,S)
    |false=>some (.out (.exit j) K,α,S)
   |e=>some (.out e K,α,S)
  |.LG::K=>match ex with
   |.goto _=>none
   |e=>some (.out e K,α,S)
 |.bc dr l K,α,S=>match l with
  |[]=>some (.out .normal K,α,S)
  |i::l=>match bG α.tm i.g with
   |some true=>match mS i.q α.tm S with
    |some (r,S')=>some (.bc dr l K,bP i.d α r,S')
    |none=>none
   |some false=>some (.bc dr l K,bP i.d α (.v undef),S)
   |none=>none
 |.j6 B V lg rs l K,α,S=>match l with
  |[]=>match ahv V lg with
   |true=>some (.out .normal K,α,S)
   |false=>none
  |i::l=>match bG α.tm i.g with
   |some true=>match dq i.q α.tm S rs with
    |some (r,d,Ii)=>some (.j6 B V (lg++[d.ns]) Ii l K,bP i.d α r,eP S d.W d.m)
    |none=>none
   |some false=>some (.j6 B V (lg++[([],[],false)]) rs l K,bP i.d α (.v undef),S)
   |none=>none
end
section
variable {P:Program}{w0:World}{rd:Bool}{n:Nat}{α aE:AA}{S S':af}{Q Q':Exit->AA->af->Prop}{ex:Exit}{r:AV}{i:QI}{l:List QI}{R:AA->af->Prop}{E:List PanicEntry->AA->af->Prop}
theorem EF {d:Option Nat}:bP d α r=xW d α r:=by cases d<;>cases α<;>rfl
theorem rM {ops:List Oper}(h:qX P.toTables n ops rest=some (i::l)):∃o a,rest=o::a/\qX P.toTables n ops a=some l/\qE n o.dst=true/\o.dst=i.d/\res P.toTables o.op=some i.q /\
  (∀b,bG α.tm i.g=some b->kU ops α o=some b):=by
 cases rest with
 |nil=>cases h
 |cons o a =>
  simp only[qX]at h;split at h
  ·rename_i q r d e f;split at h
   ·grind[bG,kU]
   ·rename_i j want g;split at h
    ·rename_i t k;injection h with h;injection h with m p;subst m p;refine⟨o,a,rfl,f,d,rfl,e,λb c=>?_⟩;simp only[kU,g,ZV,k];simp only[bG]at c;split at c
     ·grind
     ·grind
     ·grind
     ·grind
    ·grind
  ·grind
theorem jB.nil (h:R α S):jB P w0 n dr [] R E α S:=by
 intro ops rest a;have:rest=[]:=by
  cases rest with
  |nil=>rfl
  |cons o r =>
   simp only[qX]at a
   repeat' split at a
   all_goals cases a
 subst this;cases dr with
 |false=>exactλk b=>.inl (D7.nil (ops:=ops) h k b)
 |true=>exact n_.nil h
def RF (P:Program) (w0:World) (n:Nat) (o:Oper) (α:AA) (S:af) (r:AV) (S':af):Prop :=
 iY P w0 n o (α.only (dH o)) S r S'/\(oQ o.op=true->S'=S/\∀S,iY P w0 n o (α.only (dH o)) S r S)/\(Dk o.op=false->S'=S)
theorem RF.ofD (h:cP P w0 o.op α S (wJ r S')):RF P w0 n o α S r S':=by
 cases e:oQ o.op with
 |true =>
  obtain⟨b,a,c⟩:=aaZ e (Le h);obtain⟨rfl,rfl⟩:=a;have f:∀T,iY P w0 n o (α.only (dH o)) T b T:=λT=>by
   obtain⟨g,S',d,rfl,rfl⟩:=n0 (n:=n) (c T);exact d
  exact⟨f _,λ_=>⟨rfl,f⟩,λ_=>rfl⟩
 |false =>
  cases i:Dk o.op with
  |false =>
   obtain⟨b,a,c⟩:=abd e i h;obtain⟨rfl,rfl⟩:=a;obtain⟨g,S',d,rfl,rfl⟩:=n0 (n:=n) c;exact⟨d,λh=>(by grind),λ_=>rfl⟩
  |true =>
   obtain⟨b,j,a,rfl,rfl⟩:=n0 (n:=n) (Le h);exact⟨a,λh=>(by grind),λh=>(by grind)⟩
theorem n_.opG {ops:List Oper}{Q:AA->af->Prop}(b:qE n o.dst=true) (c:kU ops α o=some true) (h:RF P w0 n o α S r S') (k:n_ P w0 n ops rest Q (xW o.dst α r) S'):n_ P w0 n ops (o::rest) Q α S:=by
 intro i d;obtain⟨e,f⟩:=drop_cons d;obtain⟨aE,T,a,g⟩:=k (i+1) f;rw[wI]at a;exact⟨aE,T,.cons ⟨o,e,b,.inr ⟨tj c,r,rfl,h⟩⟩ a,g⟩
def ae (P:Program) (w0:World) (dr:Bool) (q:mz) (α:AA) (S:af) (r:AV) (S':af):Prop :=
 match dr with
 |true=>∀(n:Nat) (o:Oper),res P.toTables o.op=some q->RF P w0 n o α S r S'
 |false=>∀(n:Nat) (o:Oper),res P.toTables o.op=some q->iY P w0 n o α S r S'
theorem iY.JE {n:Nat}(h:bu P w0 o.op α S (wJ r S')):iY P w0 n o α S r S':=by
 obtain⟨b,S1,a,rfl,rfl⟩:=Dy (n:=n) h;exact a
theorem ae.run (h:∀(n:Nat) (o:Oper),res P.toTables o.op=some q->a8 P w0 n o α S r S'):ae P w0 false q α S r S':=λn o a=>(h n o a).ops λc e=>by rw[e]at a;cases a
theorem O2.step {ops:Array Oper}{i:Nat}{rest:List Nat}{aE:AA}{e:af}(hi:ops[i]?=some o) (l:(match o.dst with|some d=>Nat.blt d n|none=>true)=true)
  (p:∀(g:Gh) (w:World) (a:Act),cA g w n α a->Region.wanted o (yielded ops a.tmps)=true) (h:iY P w0 n o α S r e) (k:O2 P w0 n ops rest (α.put o.dst r) e ch aE S'):O2 P w0 n ops (i::rest) α S ch aE S':=by
 intro F m A g a w Q b q c s;simp only[wpOpsIn,hi];rw[if_pos (p g w a c)];refine⟨λf _=>b.1 f,h F m A g a w _ Q b q c λv t u x y j=>?_⟩;exact k F m A u _ t Q b y (pU (c.later j.toLater) l x) λz B C D E G=>s z B C D E (j.trans G)
theorem D8 {ops:List Oper}(c:kU ops α o=some true) (g:Gh) (w:World) (a:Act) (d:cA g w n α a):Region.wanted o (yielded ops.toArray a.tmps)=true:=by
 rcases tj c with b|⟨j,want,b,e⟩
 ·simp[Region.wanted,b]
 ·simp[Region.wanted,b,xG d e]
theorem BM.opS {ops:List Oper}{Q:AA->af->Prop}(c:qE n o.dst=true) (d:kU ops α o=some true) (h:iY P w0 n o α S r S') (k:BM P w0 n ops rest Q E (xW o.dst α r) S'):BM P w0 n ops (o::rest) Q E α S:=by
 intro i g;obtain⟨e,j⟩:=drop_cons g;have f:=k (i+1) j;rw[wI]at f;exact f.imp (λ⟨aE,T,a,b⟩=>⟨aE,T,zn.step e c (D8 d) h a,b⟩) λ⟨ch,aE,T,a,b⟩=>⟨ch,aE,T,O2.step e c (D8 d) h a,b⟩
theorem BM.skip {ops:List Oper}{Q:AA->af->Prop}(q:qE n o.dst=true) (u:kU ops α o=some false) (k:BM P w0 n ops rest Q E (xW o.dst α (.v undef)) S):BM P w0 n ops (o::rest) Q E α S:=by
 intro i v;obtain⟨r,x⟩:=drop_cons v;have s:=k (i+1) x;rw[wI]at s;obtain⟨j,want,b,y,z,B⟩:=Fm u;have t:∀(g:Gh) (w:World) (a:Act),cA g w n α a->¬ Region.wanted o (yielded ops.toArray a.tmps)=true:=λg w a c=>by simp[Region.wanted,y,xG c z,B]
 refine s.imp (λ⟨aE,T,e,h⟩=>⟨aE,T,λF m A g a w Q d l c p=>?_,h⟩) λ⟨ch,aE,T,e,h⟩=>⟨ch,aE,T,λF m A g a w Q d l c p=>?_,h⟩
 ·show wpOpsIn F m P ops.toArray Q (i::List.range' (i+1) rest.length) a w;simp only[wpOpsIn,r];rw[if_neg (t g w a c)];exact⟨λf _=>d.1 f,e F m A g _ w Q d l (pU c q .v) p⟩
 ·show wpOpsIn F m P ops.toArray Q (i::List.range' (i+1) rest.length) a w;simp only[wpOpsIn,r];rw[if_neg (t g w a c)];exact⟨λf _=>d.1 f,e F m A g _ w Q d l (pU c q .v) p⟩
def aoy:mz->Bool
 |.call ..=>true
 |_=>false
theorem ae.of (d:aoy q=false) (h:∀o,res P.toTables o=some q->bu P w0 o α S (wJ r S')):ae P w0 dr q α S r S':=by
 cases dr with
 |false=>exactλn o a=>iY.JE (h o.op a)
 |true =>
  intro n o a;refine RF.ofD ?_;have b:=h o.op a;generalize o.op=op at a b;cases op with
  |call c =>
   simp only[cP];split
   ·rename_i f e;simp only[res,e,oI_]at a;subst a;cases d
   ·grind
  |_=>exact b
theorem jB.op (b:bG α.tm i.g=some true) (h:ae P w0 dr i.q α S r S') (k:jB P w0 n dr l R E (bP i.d α r) S'):jB P w0 n dr (i::l) R E α S:=by
 intro ops rest f;obtain⟨o,g,rfl,j,c,m,d,e⟩:=rM (α:=α) f;have a:=k ops g j;rw[EF,<-m]at a;cases dr with
 |false=>exact BM.opS c (e _ b) (h n o d) a
 |true=>exact n_.opG c (e _ b) (h n o d) a
theorem jB.skip (b:bG α.tm i.g=some false) (k:jB P w0 n dr l R E (bP i.d α (.v undef)) S):jB P w0 n dr (i::l) R E α S:=by
 intro ops rest e;obtain⟨o,f,rfl,g,c,h,j,d⟩:=rM (α:=α) e;have a:=k ops f g;rw[EF,<-h]at a;cases dr with
 |false=>exact BM.skip c (d _ b) a
 |true=>exact n_.skip c (d _ b) a
def OpP (P:Program) (w0:World) (n:Nat) (o:Oper) (α:AA) (S:af) (ch:List PanicEntry) (S':af):Prop :=
 ∀(F:Fence) (m:Nat) (A:Nat->Prop) (g:Gh) (a:Act) (w:World) (next:Act->World->Prop) (Q:Exit->Act->World->Prop),kW F->St w0 A g S w->cA g w n α a ->
  (∀(b:World) (c:Gh),St w0 A c S' b->Ext A g w c b->Q (.panic ch) a b)->o.uponIn F m P a next Q ((o.semAt F.round a.eval).run P w)
def wX (P:Program) (w0:World) (q:mz) (α:AA) (S:af) (ch:List PanicEntry) (S':af):Prop:=∀(n:Nat) (o:Oper),res P.toTables o.op=some q->OpP P w0 n o α S ch S'
theorem jB.EO (e:bG α.tm i.g=some true) (h:wX P w0 i.q α S ch S') (k:E ch α S'):jB P w0 n false (i::l) R E α S:=by
 intro ops rest p;obtain⟨o,q,rfl,B,C,D,r,s⟩:=rM (α:=α) p;intro j t;obtain⟨u,G⟩:=drop_cons t;refine .inr ⟨ch,α,S',λF m A g a w Q c v b x=>?_,k⟩;show wpOpsIn F m P ops.toArray Q (j::List.range' (j+1) q.length) a w;simp only[wpOpsIn,u];rw[if_pos (D8 (s _ e) g w a b)];exact⟨λf _=>c.1 f,h n o r F m A g a w _ Q c v b λy z q1 d=>x a y z q1 (b.later d.toLater) d⟩
theorem ae.quiet (h:mS q α.tm S=some (r,S')):ae P w0 dr q α S r S':=by
 refine ae.of ?_ λo a=>vg a h;cases q<;>first|rfl|(cases h)
theorem Ly (h:comp P.toTables n c=some (.bc dr l)):∃id ops,c=.region id ops dr/\qX P.toTables n ops.toList ops.toList=some l/\(dr=true->AF P.toTables ops=true):=by
 cases c<;>simp only[comp]at h<;>(repeat' split at h)<;>(try cases h)
 ·grind
 ·grind
theorem Zq (h:comp P.toTables n c=some (.j6 V l)):∃id ops,c=.region id ops true/\qX P.toTables n ops.toList ops.toList=some l/\AF P.toTables ops=false/\V=HO ops:=by
 cases c<;>simp only[comp]at h<;>(repeat' split at h)<;>(try cases h)
 ·grind
theorem Zr {a b:QC}(h:comp P.toTables n c=some (.seq a b)):∃d c2,c=.seq d c2/\comp P.toTables n d=some a/\comp P.toTables n c2=some b:=by
 cases c<;>simp only[comp]at h<;>(repeat' split at h)<;>(try cases h)
 ·grind
theorem WA {a b:QC}(h:comp P.toTables n c=some (.cond x a b)):∃y d c2,c=.cond y d c2/\qo y=x/\comp P.toTables n d=some a/\comp P.toTables n c2=some b:=by
 cases c<;>simp only[comp]at h<;>(repeat' split at h)<;>(try cases h)
 ·grind
theorem TI {a:QC}(h:comp P.toTables n c=some (.block id a)):∃b,c=.block id b/\comp P.toTables n b=some a:=by
 cases c<;>simp only[comp]at h<;>(repeat' split at h)<;>(try cases h)
 ·grind
theorem TJ {a:QC}(h:comp P.toTables n c=some (.scope a)):∃b,c=.scope b/\comp P.toTables n b=some a:=by
 cases c<;>simp only[comp]at h<;>(repeat' split at h)<;>(try cases h)
 ·grind
theorem Kb {a:QC}(h:comp P.toTables n c=some (.loop a)):∃b,c=.loop b/\comp P.toTables n b=some a:=by
 cases c<;>simp only[comp]at h<;>(repeat' split at h)<;>(try cases h)
 ·grind
theorem TV {ps:List Nat}{a b:QC}(h:comp P.toTables n c=some (.RQ x ps a b)):∃y pt d c2,c=.rangeFunc y pt d c2/\qo y=x/\pt.toList=ps/\comp P.toTables n d=some a/\comp P.toTables n c2=some b:=by
 cases c<;>simp only[comp]at h<;>(repeat' split at h)<;>(try cases h)
 ·grind
theorem XD {d:Code}(h:comp P.toTables n c=some (.raw d)):c=d:=by
 cases c<;>simp only[comp]at h<;>(repeat' split at h)<;>(try cases h)<;>rfl
theorem vY:(comp P.toTables n c=some .skip->ZU c)/\(comp P.toTables n c=some .ret->c=.ret)/\∀id,comp P.toTables n c=some (.exit id)->c=.exit id:=by
 refine⟨λh=>?_,λh=>?_,λid h=>?_⟩
 all_goals
  cases c<;>simp only[comp]at h<;>(repeat' split at h)<;>(try cases h)<;>first|rfl|exact .inl rfl|exact .inr ⟨_,rfl⟩
theorem akv {x:Operand}:α.ev x=(qo x).ev α.tm:=(aW x).symm
theorem j7.seq {a b:QC}(h:j7 P w0 rd n a (λex α S=>match ex with|.normal=>j7 P w0 rd n b Q α S|e=>Q e α S) α S):j7 P w0 rd n (.seq a b) Q α S:=by
 intro c g d;obtain⟨i,j,rfl,k,l⟩:=Zr g;simp only[fP,al_]at d;refine Wp.seq ?_;obtain⟨ex,m,o,p,f⟩:=h i k d.1;refine⟨ex,m,o,p,?_⟩;cases ex with
 |normal=>exact f j l d.2
 |_=>exact f
theorem j7.cond {a b:QC}{t:Bool}(e:x.ev α.tm=.v (.bool t)) (h:j7 P w0 rd n (if t then a else b) Q α S):j7 P w0 rd n (.cond x a b) Q α S:=by
 intro c f d;obtain⟨y,g,i,rfl,rfl,j,k⟩:=WA f;simp only[fP,al_]at d;refine Wp.cond (by rw[akv];exact e) ?_;cases t with
 |true=>exact h g j d.1
 |false=>exact h i k d.2
theorem j7.block {a:QC}(h:j7 P w0 rd n a (λex α S=>match ex with|.exit j=>(match Nat.beq j id with|true=>Q .normal α S|false=>Q (.exit j) α S)|e=>Q e α S) α S):j7 P w0 rd n (.block id a) Q α S:=by
 intro c b d;obtain⟨f,rfl,g⟩:=TI b;exact Wp.block (h f g d)
theorem j7.scope {a:QC}(h:j7 P w0 rd n a (λex α S=>match ex with|.goto _=>False|e=>Q e α S) α S):j7 P w0 rd n (.scope a) Q α S:=by
 intro c d f;obtain⟨g,rfl,i⟩:=TJ d;obtain⟨ex,j,k,m,b⟩:=h g i f;cases ex with
 |goto l=>exact b.elim
 |_=>exact⟨_,j,k,dN.scope m (λl e=>by grind),b⟩
theorem j7.bc (h:jB P w0 n dr l (λα S=>Q .normal α S) (λch α S=>Q (.panic ch) α S) α S):j7 P w0 rd n (.bc dr l) Q α S:=by
 intro c i e;obtain⟨id,ops,rfl,j,k⟩:=Ly i;have f:=h _ _ j;cases dr with
 |false =>
  rcases f 0 rfl with ⟨aE,S',b,d⟩|⟨ch,aE,S',b,d⟩
  ·rw[bh_,<-bQ_]at b;exact⟨_,aE,S',dN.region b,d⟩
  ·rw[bh_,<-bQ_]at b;exact⟨.panic ch,aE,S',λF m A g a w o u p q=>wpIn_region (b F m A g a w _ o p q λv x r q1 s t=>⟨rfl,r,q1,s,t⟩),d⟩
 |true=>exact n_.wp (by simp only[fP,al_]at e;simp only[al_];exact⟨e.1,((al_ _ _).mp ((al_ _ _).mp (k rfl)).1).1⟩) f
theorem KL {G:Nat->Option Ob}:∀{ks:List Nat}{k:Nat},k ∉ ks->Wz G ks k=G k
 |[],_,_=>rfl
 |p::ks,k,h=>by
  simp only[ad_,not_or]at h;rw[Wz,aO _ _ h.1,KL h.2]
theorem BN:∀{l:List QI}{x k:Nat},k ∈ tr l x->x<=k/\k < x+(tr l x).length
 |[],x,k,h=>by cases h
 |i::l,x,k,h=>by
  simp only[tr]at h ⊢;split at h
  ·rename_i e;simp only[e,aw_];rcases ad_.1 h with rfl|h
   ·omega
   ·have:=BN h;omega
  ·rename_i e;exact BN h
theorem St.rsv {A:Nat->Prop}{g:Gh}{w:World}(b:St w0 A g S w) (l:List QI):St w0 A g (TH S l) w:=by
 obtain⟨G,x⟩:=S;refine b.forget (Nat.le_add_right _ _) λk o a d=>?_;have c:=b.al k d;have c:k < x:=c;have a:Wz G (tr l x) k=some o:=a
 rwa [KL λe=>by have:=(BN e).1;omega]at a
theorem j7.j6 (h:(∀k ∈ tr l S.nx,k < S.nx+(tr l S.nx).length)->S.nx+(tr l S.nx).length<=(TH S l).nx->qi P w0 n (S.nx+(tr l S.nx).length) V [] l (λα S=>Q .normal α S) α (TH S l)):j7 P w0 rd n (.j6 V l) Q α S:=by
 intro c v d;obtain⟨id,ops,rfl,r,y,rfl⟩:=Zq v;simp only[fP,al_,cd_,y,bn_,false_or]at d;have z:l.length=ops.size:=by
  have key:∀(ops rest:List Oper) (l:List QI),qX P.toTables n ops rest=some l->l.length=rest.length:=by
   intro ops rest
   induction rest with
   |nil=>intro l h;obtain rfl:=oJ_ h;rfl
   |cons o rest s =>
    intro l h;cases l with
    |nil =>
     exfalso;simp only[qX]at h;split at h
     ·grind
     ·grind
    |cons i l =>
     obtain⟨O,R,e,b,_⟩:=rM (α:=α) h;injection e with B C;subst B C;simp[s _ b]
  rw[key _ _ _ r];simp
 obtain⟨D,aE,S',b,f,E⟩:=h (λk G=>(BN G).2) (by cases S;exact ac_ _) ops.toList r;simp only[aN_,z,aK_]at b f;rw[<-bQ_]at b f;refine⟨.normal,aE,S',λF m A g a w H I J K=>?_,E⟩;refine dN.akt d.1 d.2 (λp t=>?_) b F m A g a w H I (J.rsv l) K;have u:=aP_.1 f p t;have L:=(bB_.1 t).1;have j:∀{m:List Nat}{k:Nat}{q:Nat × Nat},q ∈ EE ops m k->q.1 < k/\q.2 < k:=by
  intro m k q
  induction k with
  |zero=>intro h;cases h
  |succ k s =>
   intro h;simp only[EE,az_,av_,bB_,aI_]at h;rcases h with ⟨x,⟨T,_⟩,rfl⟩|h
   ·grind
   ·grind
 obtain⟨M,N⟩:=j L;have get:∀i,i < ops.size->I7 ((List.range ops.size).map λi=>(D i).ns) i=(D i).ns:=λi U=>by grind[I7]
 rw[get _ M,get _ N]at u;exact u
theorem lG.congr {ops:Array Oper}{D a:Nat->Dt}:∀{L:List Nat}{α aE:AA}{S S':af},(∀i ∈ L,D i=a i)->lG P w0 n ops B D L α S aE S'->lG P w0 n ops B a L α S aE S'
 |[],_,_,_,_,_,.nil ..=>.nil ..
 |i::rest,_,_,_,_,b,.cons h t=>.cons (by grind) (t.congr λj c=>b j (by grind))
theorem yN {ops:List Oper}{k:Nat}(h:ops.drop k=o::rest):ops.toArray[k]?=some o/\ops.drop (k+1)=rest:=drop_cons h
theorem qi.step {lg:List (List Nat × List Nat × Bool)}{d:Dt}{R:AA->af->Prop}
  (j:∀ops o rest,ops.drop lg.length=o::rest->qE n o.dst=true->o.dst=i.d->res P.toTables o.op=some i.q->(∀b,bG α.tm i.g=some b->kU ops α o=some b)->uX P w0 n ops.toArray B lg.length d α S α1 S1)
  (k:qi P w0 n B V (lg++[d.ns]) l R α1 S1):qi P w0 n B V lg (i::l) R α S:=by
 intro ops g;obtain⟨o,rest,h,m,p,q,r,s⟩:=rM (α:=α) g;obtain⟨t,u⟩:=yN h;obtain⟨D,aE,S',c,a,k3⟩:=k ops (by grind);simp only[af_,bi_]at c a;refine⟨λi=>if i=lg.length then d else D i,aE,S',?_,?_,k3⟩
 ·rw[aw_,cC_];refine .cons (by grind) (c.congr λi f=>?_);have:=(List.mem_range'_1.1 f).1;rw[if_neg (by omega)]
 ·rw[aw_,cC_,aC_];simp only[if_pos];have e:((List.range' (lg.length+1) l.length).map λi=>(if i=lg.length then d else D i).ns)=(List.range' (lg.length+1) l.length).map λi=>(D i).ns:=aF_ λi f=>by grind
  rw[e];rw[bc_]at a;exact a
theorem abg {ops:List Oper}{b:Bool}(h:kU ops α o=some b):(b=true->o.guard=none\/∃j want,o.guard=some (j,want)/\uG ops.toArray α j=some (some want))/\(b=false->∃j want c,o.guard=some (j,want)/\uG ops.toArray α j=some c/\c ≠ some want):=by
 refine⟨λe=>tj (by grind),λe=>?_⟩;subst e;unfold kU at h;split at h
 ·grind
 ·rename_i j want d;split at h
  ·rename_i a;have:=oJ_ h;subst this;exact⟨j,false,some true,d,by rw[<-CG];exact a,by simp⟩
  ·rename_i a;have:=oJ_ h;cases want with
   |true=>exact⟨j,true,some false,d,by rw[<-CG];exact a,by simp⟩
   |false=>simp at this
  ·rename_i a;exact⟨j,want,none,d,by rw[<-CG];exact a,by simp⟩
  ·grind
theorem qi.op {lg:List (List Nat × List Nat × Bool)}{d:Dt}{R:AA->af->Prop}(a:B<=S.nx) (b:bG α.tm i.g=some true) (h:a_ P w0 B i.q α S r d) (k:qi P w0 n B V (lg++[d.ns]) l R (bP i.d α r) (eP S d.W d.m)):qi P w0 n B V lg (i::l) R α S:=by
 refine qi.step (λops o rest c e f g j=>?_) k;obtain⟨m,p,k3⟩:=h n o g;exact⟨o,(yN c).1,e,m,a,p,rfl,.inr ⟨(abg (j _ b)).1 rfl,r,by rw[EF,<-f];cases o.dst<;>rfl,λT q s t=>k3 T q s t⟩⟩
theorem qi.skip {lg:List (List Nat × List Nat × Bool)}{R:AA->af->Prop}(a:B<=S.nx) (b:bG α.tm i.g=some false) (k:qi P w0 n B V (lg++[([],[],false)]) l R (bP i.d α (.v undef)) S):qi P w0 n B V lg (i::l) R α S:=by
 refine qi.step (d:=.none_) (λops o rest e f g s h=>?_) k;obtain⟨j,want,c,m,q,r⟩:=(abg (h _ b)).2 rfl;exact⟨o,(yN e).1,f,λ_=>rfl,a,(show iC S [] from λp t=>by grind),kB.symm,.inl ⟨j,want,c,m,q,r,by rw[EF,<-g];cases o.dst<;>rfl,rfl⟩⟩
theorem j7.done {a:QC}(b:∀c,comp P.toTables n c=some a->Wp P w0 rd n c Q α S):j7 P w0 rd n a Q α S:=λc d _=>b c d
theorem TX {m o:QF}(h:Cu m α S=some (o,aE,S')) (k:ad P w0 rd n Q o aE S'):ad P w0 rd n Q m α S:=by
 have e:∀{x:QF}{y:AA}{z:af},some (x,y,z)=some (o,aE,S')->ad P w0 rd n Q x y z:=λh=>by grind
 cases m with
 |run c K =>
  simp only[Cu]at h;split at h
  ·exact j7.done λc a=>Wp.of (dN.skip (vY.1 a)) (e h)
  ·exact j7.bc (e h)
  ·exact j7.bc (e h)
  ·rename_i V l;cases S with
   |mk G x =>
    simp only[oI_,pI_]at h;obtain⟨rfl,rfl,rfl⟩:=h;exact j7.j6 λg p=>k g p
  ·exact j7.seq (e h)
  ·split at h
   ·rename_i a;exact j7.cond a (e h)
   ·rename_i a;exact j7.cond a (e h)
   ·grind
  ·exact j7.block (e h)
  ·exact j7.scope (e h)
  ·exact j7.done λc a=>by rw[vY.2.2 _ a];exact Wp.of (dN.exit_ _) (e h)
  ·exact j7.done λc a=>by rw[vY.2.1 a];exact Wp.of dN.ret (e h)
  ·grind
 |out ex K =>
  cases K with
  |nil=>simp[Cu]at h
  |cons it K =>
   cases it with
   |seq b=>cases ex<;>(simp only[Cu]at h;have t:=e h;exact t)
   |yb id =>
    cases ex with
    |exit j =>
     simp only[Cu]at h;show (match Nat.beq j id with|true=>dS P w0 rd n Q K .normal α S|false=>dS P w0 rd n Q K (.exit j) α S);split at h
     ·have t:=e h;exact t
     ·have t:=e h;exact t
    |_=>simp only[Cu]at h;have t:=e h;exact t
   |LG =>
    cases ex with
    |goto l=>simp[Cu]at h
    |_=>simp only[Cu]at h;have t:=e h;exact t
 |bc dr l K =>
  simp only[Cu]at h;split at h
  ·exact jB.nil (e h)
  ·rename_i i l;split at h
   ·rename_i f;split at h
    ·rename_i r T q;exact jB.op f (ae.quiet q) (e h)
    ·grind
   ·rename_i f;exact jB.skip f (e h)
   ·grind
 |j6 B V lg rs l K =>
  intro s u;simp only[Cu]at h;split at h
  ·split at h
   ·rename_i a;have g:=e h;exactλops _=>⟨λ_=>.none_,α,S,.nil ..,by grind,g⟩
   ·grind
  ·rename_i i l;split at h
   ·rename_i f;split at h
    ·rename_i r d Ii q;obtain⟨g,p⟩:=Zn (P:=P) (w0:=w0) (df:=α.df) s q;exact qi.op u f g (e h (λk v=>s k (p k v)) (by grind[gj]))
    ·grind
   ·rename_i f;exact qi.skip u f (e h s u)
   ·grind
end
end Go.Proofs.YtbpabjmnhggajaaGreat
