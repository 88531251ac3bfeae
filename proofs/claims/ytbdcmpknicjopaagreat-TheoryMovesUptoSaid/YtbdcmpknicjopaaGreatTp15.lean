import Derived.Test.YtbdcmpknicjopaaGreatTp14
namespace Go.Proofs.YtbdcmpknicjopaaGreat
set_option linter.all false
set_option maxRecDepth 100000
open Go.RowKit Proofs.Tryz
variable{B N n:Nat}{K:List gw}{O:Hd}{P:Program}{Q:Exit->AA->ah->Prop}{S S':ah}{U:AA}{V:List (Nat×Nat)}{Y w:World}{a:List Tm}{b i x:QO}{d:Option Nat}{dr:Bool}{es:List (Value×AV)}{g:Option (Nat×Bool)}{kk:IntKind}{l:List QI}{m:Int}{o:Oper}{p:Value×AV}{r z:AV}{rs:List Nat}{so:List (Nat×Ob)}{t:TypeId}{u v:Operand}
section
attribute [local irreducible] ao aF D H
def an0:=aC func186 call186
def zy:List Nat:=[6,4,0,5,10,1,19]
def Bd.ok(x:Bd):Prop:=x.t.ok/\dm x.t<=1099511627776
def aa7:Tm:=⟨0,0,⟨#[]⟩,[]⟩
def f_(b:List Bd)(v:Int):Tm×Bool:=match b.find? λx=>x.v==v with|some x=>(x.t,true)|none=>(aa7,false)
theorem Px{S:ah}{O:Hd}:aI S (.agg [.v (.int .i64 0),.v (.int .i64 0),.v (.string ⟨#[]⟩),.sl true []]) (tm O aa7):=by refine .agg rfl λi a d b c=>?_;match i,b,c with|0,b,c=>cases oJ_ b;cases oJ_ c;exact .refl _|1,b,c=>cases oJ_ b;cases oJ_ c;exact .refl _|2,b,c=>cases oJ_ b;cases oJ_ c;exact .refl _|3,b,c =>cases oJ_ b;cases oJ_ c;rw[aa7,tl,bF];exact aI.wk
theorem LF{S:ah}{a a':AV}{b:Bool}(h:aI S a a'):aI S (.aL [a,.v (.bool b)]) (.aL [a',.v (.bool b)]):=by refine .aL rfl λi x e c d=>?_;match i,c,d with|0,c,d=>cases oJ_ c;cases oJ_ d;exact h|1,c,d=>cases oJ_ c;cases oJ_ d;exact .refl _
theorem Py(b:List Bd)(v:Int)(p:b.length<=1099511627776):ab Y 186 [a8 O b,iv v] (.aL [tm O (f_ b v).1,.v (.bool (f_ b v).2)]):=by
 let⟨R,e⟩:=aq (f_ b v);rw[<-e];refine st an0 zy (.aL λa f=>by simp only[al_,ax_,or_false]at f;rcases f with rfl|rfl;exact bH _;exact .v) ?_;refine bD 1 1 [] (λi=>[(0,a8 O b),(1,.v (.int .i64 v)),(4,.pt 0 4 0 0),(6,.v (.int .i64 i))]) [] (λ_=>[(0,.arr 4 [[.v (.int .i64 0),.v (.int .i64 0),.v (.string ⟨#[]⟩),.sl true []]] 0 true)]) b.length (λk=>R=f_ (b.drop k) v) X λi k h q c=>?_;clear e;refine I zy ?_;by_cases j:k<b.length
 ·let⟨x,l,n⟩:=aA j;rw[n,f_,cC_]at c;let⟨g,r,s,t,u⟩:=x;repeat' first|refine og zy (D.bh h l) ?_|refine cg zy (λd=>?_) λd=>?_|refine lg zy λm o=>?_|refine ag zy λ_ _=>?_|refine xG zy ?_|refine rG zy ?_|refine fq ?_
  all_goals first|omega|rw[show(g==v)=true by grind]at c;subst c;exact aI.of_eq rfl|rw[show(g==v)=false by grind]at c;exact cB _ [] (k+1) (by rw[c];rfl)
 ·skip;repeat' first|refine cg zy (λd=>?_) λd=>?_|refine lg zy λm o=>?_|refine xG zy ?_|refine fq ?_
  all_goals first|omega|skip
  rw[aq_ Z,f_]at c;subst c;exact LF Px
def an1:=aC func184 call184
def kH:List Nat:=[3,0,5,4,2,11,23,7,35]
def an2:=aC func111 call111
def ow:List Nat:=[3,0,2,7,50]
def an3:=aC func113 call113
def qE:List Nat:=[7,0,6,13,1,21,2,9,31]
def asA:=aC func54 call54
def g54:List Nat:=[6,0,3,1,2]
def asB:=aC func53 call53
def X4:List Nat:=[3,4,0,1,12,2]
def LG(x:Bd):Bool:=decide (0<=x.v)&&decide (x.v<=1048576)&&cI x.t
def Pz(p x:Bd):Bool:=decide (p.v<x.v)
def j8(b:List Bd)(v:Int):Bool:=b.any λx=>x.v==v
def uT(b:List Bd):Bool:=b.all λx=>(varsOf [x.t]).all λv=>!j8 b v
def m7(b:List Bd):Bool:=kW LG Pz none b&&uT b
theorem MT(b:List Bd)(v:Int):(f_ b v).2=j8 b v:=by grind[f_,j8]
theorem pL(x:Tm):(eD x).length<=dm x:=by
 refine Tm.ind (p:=λx=>(eD x).length<=dm x) ?_ x;intro k i n a b;have key:∀l:List Tm,(∀y∈l,(eD y).length<=dm y)->(aX l).length<=bt l:=by intro l;induction l with|nil=>intro _;simp[aX,bt]|cons y l c =>intro h;rw[aX,bt,av_];have d:=h y aB;have e:=c λz f=>h z X;omega
 have g:=key a b;rw[eD,dm];split;grind;grind
theorem wJ:∀l:List Tm,(aX l).length<=bt l|[]=>by simp[aX,bt]|x::l=>by rw[aX,bt,av_];have a:=pL x;have b:=wJ l;omega
theorem uU(l:List Tm):(varsOf l).length<=bt l:=aA_ (lL _ _) (wJ l)
theorem af_(b:List Bd)(t:b.length<=1099511627776)(u:∀x∈b,x.ok):ab Y 184 [a8 O b] (.v (.bool (uT b))):=by
 let⟨R,h⟩:=aq (uT b);rw[<-h];unfold uT at h;refine st an1 kH .v ?_;refine bD 0 0 [] (λi=>[(0,a8 O b),(3,.v (.int .i64 i))]) [] (λ_=>[]) b.length (λk=>R=(b.drop k).all λx=>(varsOf [x.t]).all λv=>!j8 b v) X λi k w L d=>?_;clear h;refine I kH ?_;by_cases y:k<b.length
 ·let⟨x,n,z⟩:=aA y;let⟨A,B⟩:=u x (aZ n);rw[z,aJ_]at d;have o:=LB (Y:=Y) (O:=O) x.t A (aA_ (pL _) B);have C:(varsOf [x.t]).length<=1099511627776:=by have E:=uU [x.t];rw[bt,bt]at E;omega
  let⟨e,F⟩:=aq (varsOf [x.t]);rw[<-F]at d o C;let⟨M,N,P,Q,S⟩:=x;repeat' first|refine og kH (D.bh w n) ?_|apply bk kH o|refine cg kH (λa=>?_) λa=>?_|refine lg kH λm f=>?_|refine xG kH ?_|refine fq ?_
  ·refine bD 0 0 [] (λj=>[(0,a8 O b),(3,.v (.int .i64 i)),(4,aY O aV false e),(5,.v (.int .i64 j))]) [] (λ_=>[]) e.length (λq=>R=(((e.drop q).all λv=>!j8 b v)&&(b.drop (k+1)).all λx=>(varsOf [x.t]).all λv=>!j8 b v)) X λj q r T c=>?_;clear d;refine I kH ?_;by_cases G:q<e.length
   ·let⟨v,s,J⟩:=aA G;rw[J,aJ_,<-MT]at c;have g:=Py (Y:=Y) (O:=O) b v t;let⟨⟨⟨V,W,ln,la⟩,K⟩,l⟩:∃p,p=f_ b v:=⟨_,rfl⟩;rw[<-l]at g c;dsimp only at g c;cases K
    ·skip;repeat' first|refine og kH (D.bh r s) ?_|apply bk kH g|refine cg kH (λa=>?_) λa=>?_|refine lg kH λm f=>?_|refine ag kH λ_ _=>?_|refine xG kH ?_
     all_goals first|omega|refine H.bK _ [] ?_ ?_ cq;grind;omega
    ·skip;repeat' first|refine og kH (D.bh r s) ?_|apply bk kH g|refine cg kH (λa=>?_) λa=>?_|refine lg kH λm f=>?_|refine ag kH λ_ _=>?_|refine xG kH ?_|refine rG kH ?_|refine fq ?_
     all_goals first|omega|refine aK ?_;rw[c];rfl
   ·rw[aq_ Z,bl_,az_]at c;repeat' first|refine cg kH (λa=>?_) λa=>?_|refine lg kH λm f=>?_|refine ag kH λ_ _=>?_|refine xG kH ?_
    all_goals first|omega|exact cB _ [] (k+1) c
  omega
 ·skip;repeat' first|refine cg kH (λa=>?_) λa=>?_|refine lg kH λm f=>?_|refine xG kH ?_|refine fq ?_
  all_goals first|omega|rw[d,aq_ Z];exact aK rfl
theorem X5(b:List Bd)(q:b.length<=1099511627776)(n:∀x∈b,x.ok):ab Y 111 [a8 O b] (.v (.bool (m7 b))):=by
 have c:=af_ (Y:=Y) (O:=O) b q n;let⟨R,f⟩:=aq (m7 b);rw[<-f];unfold m7 at f;let⟨r,s⟩:=aq (uT b);rw[<-s]at f c;refine st an2 ow .v ?_;refine H.g5 (σ:=Int) 0 0 [] (λi=>[(0,a8 O b),(3,.v (.int .i64 i))]) [] (λ_=>[]) (λi=>∃(k:Nat) (h:Option Bd),i=k/\k<=b.length/\R=(kW LG Pz h (b.drop k)&&r)/\B5 b k h) (λi=>b.length-i.toNat) 0 ⟨0,none,rfl,aB,X,.inl ⟨rfl,rfl⟩⟩ rfl cq ?_;rintro i⟨k,h,o,L,a,t⟩;clear f;refine I ow ?_;by_cases u:k<b.length
 ·let⟨x,j,v⟩:=aA u;let⟨w,y⟩:=n x (aZ j);rw[v,jT]at a;have g:=Dd (Y:=Y) (O:=O) x.t w y;let⟨d,z,A,B,C⟩:=x;dsimp only at g;rw[LG]at a;dsimp only at a;let⟨V,E⟩:=aq (cI ⟨z,A,B,C⟩);rw[<-E]at g a;rcases t with⟨rfl,rfl⟩|⟨⟨F,M,N,P,Q⟩,G,J,rfl⟩
  ·simp only[Ay,bG_]at a;repeat' first|refine og ow (D.bh o j) ?_|refine bg ow (pl g) (λ_=>?_) λ_=>?_|refine cg ow (λe=>?_) λe=>?_|refine lg ow λm p=>?_|refine ag ow λ_ _=>?_|refine xG ow ?_|refine rG ow ?_|refine fq ?_
   all_goals first|omega|refine aK ?_;rw[a,decide_eq_false (show¬0<=d by omega)];rfl|refine aK ?_;rw[a,decide_eq_false (show¬d<=1048576 by omega)];simp;done|refine aK ?_;rw[a,show V=false by grind];simp;done|refine H.bK _ [] ?_ ?_ cq;grind[jU];omega
  ·simp only[Ay,Pz]at a;repeat' first|refine og ow (D.bh o j) ?_|refine og ow (D.ind rfl rfl (fm (l:=b) (k:=k-1) Z J) (ec λ_=>rfl)) ?_|refine bg ow (pl g) (λ_=>?_) λ_=>?_|refine cg ow (λe=>?_) λe=>?_|refine lg ow λm p=>?_|refine ag ow λ_ _=>?_|refine xG ow ?_|refine rG ow ?_|refine fq ?_
   all_goals first|omega|refine aK ?_;rw[a,decide_eq_false (show¬0<=d by omega)];rfl|refine aK ?_;rw[a,decide_eq_false (show¬d<=1048576 by omega)];simp;done|refine aK ?_;rw[a,decide_eq_false (show¬F<d by omega)];simp;done|refine aK ?_;rw[a,show V=false by grind];simp;done|refine H.bK _ [] ?_ ?_ cq;grind[jU];omega
 ·rw[aq_ Z,rN,az_]at a;repeat' first|apply bk ow c|refine cg ow (λe=>?_) λe=>?_|refine lg ow λm p=>?_|refine xG ow ?_|refine fq ?_
  all_goals first|omega|rw[a];exact aK rfl
def je(vs:List Int)(fresh:Int)(b:List Bd):Bool:=vs.all λv=>decide (v<fresh) &&!j8 b v
theorem PD(vs:List Int)(fresh:Int)(b:List Bd)(l:b.length<=1099511627776)(r:vs.length<=1099511627776):ab Y 113 [aY O aV false vs,iv fresh,a8 O b] (.v (.bool (je vs fresh b))):=by
 let⟨R,e⟩:=aq (je vs fresh b);rw[<-e];unfold je at e;refine st an3 qE .v ?_;refine bD 0 0 [] (λi=>[(0,aY O aV false vs),(1,.v (.int .i64 fresh)),(2,a8 O b),(7,.v (.int .i64 i))]) [] (λ_=>[]) vs.length (λk=>R=(vs.drop k).all λv=>decide (v<fresh) &&!j8 b v) X λi k g s a=>?_;clear e;refine I qE ?_;by_cases n:k<vs.length
 ·let⟨v,h,o⟩:=aA n;rw[o,aJ_,<-MT]at a;have d:=Py (Y:=Y) (O:=O) b v l;let⟨⟨⟨t,u,w,x⟩,q⟩,f⟩:∃p,p=f_ b v:=⟨_,rfl⟩;rw[<-f]at d a;dsimp only at d a;cases q
  ·skip;repeat' first|refine og qE (D.bh g h) ?_|apply bk qE d|refine cg qE (λc=>?_) λc=>?_|refine lg qE λm j=>?_|refine ag qE λ_ _=>?_|refine xG qE ?_|refine rG qE ?_|refine fq ?_
   all_goals first|omega|refine aK ?_;rw[a,decide_eq_false (show¬v<fresh by omega)];rfl|rw[decide_eq_true (show v<fresh by omega)]at a;exact cB _ [] (k+1) X
  ·skip;repeat' first|refine og qE (D.bh g h) ?_|apply bk qE d|refine cg qE (λc=>?_) λc=>?_|refine lg qE λm j=>?_|refine xG qE ?_|refine rG qE ?_|refine fq ?_
   all_goals first|omega|refine aK ?_;rw[a];simp;done
 ·skip;repeat' first|refine cg qE (λc=>?_) λc=>?_|refine lg qE λm j=>?_|refine xG qE ?_|refine fq ?_
  all_goals first|omega|rw[a,aq_ Z];exact aK rfl
def Fu(x:Gl):Prop:=pD x.a/\x.n.size<=1099511627776
def wb(h:pD a):(aX a).length<=1099511627776:=aA_ (wJ a) h.2
def ug(h:pD a):(varsOf a).length<=1099511627776:=aA_ (uU a) h.2
theorem TQ(g:Gl)(fresh:Int)(b:List Bd)(i:b.length<=1099511627776)(c:Fu g):ab Y 54 [gl O g,iv fresh,a8 O b] (.v (.bool (je (varsOf g.a) fresh b))):=by
 have e:=J6 (Y:=Y) (O:=O) g c.1.len c.1.1 (wb c.1);have d:=PD (Y:=Y) (O:=O) (varsOf g.a) fresh b i (ug c.1);let⟨R,f⟩:=aq (je (varsOf g.a) fresh b);rw[<-f]at d⊢;let⟨j,h⟩:=aq (varsOf g.a);rw[<-h]at e d;clear f h c;let⟨o,n,a⟩:=g;refine st asA g54 .v ?_;repeat' first|apply bk g54 e|apply bk g54 d|refine fq ?_
 exact aK rfl
def zz(ds:List Dc)(g:Gl):Bool:=de g&&decide (g.op<=4)&&(decide (g.op≠0)||i_ ds g.n g.a.length)
theorem aga(p:Pg)(g:Gl)(j:p.ds.length<=1099511627776)(e:Fu g):ab Y 53 [pg O p,gl O g] (.v (.bool (zz p.ds g))):=by
 have f:=zc (Y:=Y) (O:=O) g e.1 e.2;have k:=e.1.len;let⟨d,rs⟩:=p;let⟨o,n,a⟩:=g;dsimp only at j k⊢;have h:∀q:Int,q=a.length->ab Y 108 [g7 O d,.v (.string n),iv q] (.v (.bool (i_ d n a.length))):=λq s=>by grind[yB]
 let⟨R,b⟩:=aq (zz d ⟨o,n,a⟩);rw[<-b];unfold zz at b;dsimp only at b;let⟨G,i⟩:=aq (de ⟨o,n,a⟩);let⟨l,c⟩:=aq (i_ d n a.length);rw[<-i]at f b;rw[<-c]at h b;clear i c;refine st asB X4 .v ?_;repeat' first|refine bg X4 (pl f) (λ_=>?_) λ_=>?_|refine og X4 (D.bO rfl (h _ X) ⟨eL _,.v,.v,trivial⟩) ?_|refine cg X4 (λr=>?_) λr=>?_|refine lg X4 λm t=>?_|refine fq ?_
 all_goals refine aK ?_;rw[b];clear f h b;simp_all<;>omega
end
section
variable{T:ah}{f:FuncId}{args:List AV}
def Rn.bu{a:AV}(h:eC N a):Rn id N a a:=λg w x b=>aO.bu (B:=N) (g:=g) (g':=g.pre id N) (λk c d=>⟨c,d⟩) (λ_ _=>rfl) (λ_ _=>rfl) (λ_ _ h=>h) b h
theorem fj.bu{g g':Gh}{b C:Nat}{o:Ob}(R:∀k,k<B->g.al k->g'.al k)(S:∀k,k<B->g.al k->g'.ob k=g.ob k)(T:∀k,k<B->g.al k->g'.cp k=g.cp k)(E:g'.fz=g.fz)(p:kp B o)(F:∀J,o≠.fo J)(q:∀{a:AV}{x:Value},eC B a->aO g w a x->aO g' w a x)(h:fj g w b C o):fj g' w b C o:=by cases o with|arr V rows fz W =>let⟨G,K,d,f,l,n,r,u,v⟩:=h;refine⟨G,K,d,f,l,n,λi row y=>⟨(r i row y).1,λj a c=>?_⟩,u,by rw[E];exact v⟩;let⟨x,M,N⟩:=(r i row y).2 j a c;exact⟨x,M,q (p _ (as_ y) _ (as_ c)) N⟩|mp es =>let⟨entries,clock,d,f,l⟩:=h;refine⟨entries,clock,d,f,λi k a c=>?_⟩;let⟨e,z,A,m⟩:=l i k a c;exact⟨e,z,A,q (p _ (as_ c)) m⟩|mb es =>let⟨entries,d,f,l,n⟩:=h;refine⟨entries,d,f,λi k a c=>?_,n⟩;let⟨e,z,A,m⟩:=l i k a c;exact⟨e,z,A,q (p _ (as_ c)) m⟩|lp st pJ tm ps assign body =>let⟨L,d,f,l,n,r,u,v,P⟩:=h;exact⟨L,d,f,l,n,r,u,λt Q=>q (p t) (v t Q),P⟩|df=>exact h|si s pos=>exact h|fo J=>exact absurd rfl (F J)|un=>exact h.elim
theorem lJ.bu{o:Ob}(a:kp N o)(c:∀J,o≠.fo J):lJ id N o o:=by refine⟨λg w b e h=>?_,λJ h=>h⟩;exact fj.bu (B:=N) (g:=g) (g':=g.pre id N) (λk a d=>⟨a,d⟩) (λ_ _ _=>rfl) (λ_ _ _=>rfl) rfl a c (λa h=>Rn.bu a g w _ h) h
theorem aO.back{gc g:Gh}{o:Nat->Nat}(t:∀k,k<N->o k=k)(s:Bk o gc g):∀{a:AV}{x:Value},eC N a->aO gc w a x->aO g w a x:=by
 have n:∀k,k<N->gc.al k->g.al k:=λk b p=>by have:=s.al k p;rwa[t k b]at this
 have q:∀k,k<N->gc.al k->g.ob k=gc.ob k:=λk b p=>by have:=s.ob k p;rwa[t k b]at this
 have Q:∀k,k<N->gc.al k->g.cp k=gc.cp k:=λk b p=>by have:=s.cp k p;rwa[t k b]at this
 have R:=s.fz;intro a x c h;induction h with
 |u=>exact .u|v=>exact .v|agg y h m=>cases c with|agg c=>exact .agg y λi a x d l=>m i a x d l (c _ (as_ d))
 |aL y h m=>cases c with|aL c=>exact .aL y λi a x d l=>m i a x d l (c _ (as_ d))
 |nil z=>exact .nil z|sl B C f E h F m =>cases c with|sl c=>exact .sl B C f E (λi j row a d l=>⟨X,(h i j row a d l).2⟩) λi j row a d l=>m i j row a d l (c _ (as_ d) _ (as_ l))
 |ip h F m =>cases c with|ip c=>exact .ip (λi a d=>⟨X,(h i a d).2⟩) λi a d=>m i a d (c _ (as_ d))
 |ob b z G J f =>cases c with|ob e =>rw[<-q _ e b];exact .ob (n _ e b) z X X f
 |pt b =>cases c with|pt e=>rw[<-q _ e b];exact .pt (n _ e b)
 |mp b =>cases c with|mp e=>rw[<-q _ e b];exact .mp (n _ e b)
 |yl b =>cases c with|yl e=>rw[<-q _ e b];exact .yl (n _ e b)
 |lH=>exact .lH|gr b J f =>cases c with|gr e=>rw[<-q _ e b];exact .gr (n _ e b) X f
 |fn d l S T K L =>cases c with|fn M P=>exact .fn d l (λi a x r A=>K i a x r A (M _ (as_ r))) λi a x r A=>L i a x r A (P _ (as_ r))
structure Fv(so:List (Nat×Ob))(N:Nat)(T:ah):Prop where
 le:N<=T.nx
 get:∀j o,fH so j=some o->j<N/\T.get j=some o/\kp N o/\∀J,o≠.fo J
 all:∀j,j<N->∃o,fH so j=some o
theorem aF.same(h:aF P Y f args (aw so N) r (aw so N))(y:Fv so N T)(q:∀a∈args,eC N a)(hr:eC N r):aF P Y f args T r T:=by
 let⟨l,S⟩:∃l:ah,l=⟨λk=>if k<T.nx then T.get k else none,T.nx⟩:=⟨_,rfl⟩;have get':∀k o,l.get k=some o->k<T.nx/\T.get k=some o:=λk o c=>by rw[S]at c;have c:(if k<T.nx then T.get k else none)=some o:=c;split at c;grind;grind
 have Ic:l.nx=T.nx:=X;have V:∀k o,k<T.nx->T.get k=some o->l.get k=some o:=λk o c h=>by rw[S];show(if k<T.nx then T.get k else none)=some o;rw[if_pos c];exact h
 have z:=y.le;have G:∀k,k<N->dP id N l.nx k=k:=λk c=>rR c;have hf:Fits id (aw so N) (aw so N) l l:=by refine⟨λi j _ _ e=>e,λj d=>by rw[Ic];exact aE_ d z,λj o d=>?_,λk o c=>?_,.inr ⟨ad_ _,rfl⟩,.inr λj J d=>?_⟩;let⟨s,n,K,L⟩:=y.get j o d;exact⟨o,V j o (aE_ s z) n,lJ.bu K L⟩;let⟨s,n⟩:=get' k o c;by_cases M:k<N;let⟨Q,C⟩:=y.all k M;let⟨q1,q2,q3,q4⟩:=y.get k Q C;obtain rfl:Q=o:=X;refine .inl ⟨k,Q,G k M,C,λgc g w b cp t _ R=>?_,λJ e=>e⟩;have E:∀k,k<N->dP id (aw so N).nx l.nx k=k:=G;exact fj.bu (B:=N) (λk c q=>by have:=t.al k q;rwa[E k c]at this) (λk c q=>by have:=t.ob k q;rwa[E k c]at this) (λk c q=>by have:=t.cp k q;rwa[E k c]at this) t.fz q3 q4 (λc h=>aO.back E t c h) R;exact .inr ⟨X,λj d e=>M (by rw[<-e];exact d),c⟩;let⟨_,_,_,L⟩:=y.get j _ d;exact absurd rfl (L J)
 have W:=h.frame hf rfl (λi a b s n=>by rw[s]at n;cases oJ_ n;exact Rn.bu (q _ (as_ s))) λgc g w x t R=>aO.back (N:=N) (o:=dP id (aw so N).nx l.nx) G t hr R;refine⟨W.1,λF m A g u w hF hS hA=>(W.2 F m A g u w hF (hS.forget X λj p d _=>(get' j p d).2) hA).mono ?_⟩;rintro e w'⟨v,g',rfl,s,n,K⟩;refine⟨v,g',rfl,s,n.forget X λj p d aR=>?_,K⟩;have:=n.al j aR;exact V j p X d
def D.Hu{f:QO}{b:List QO}{g:FuncId}{args:List AV}(c:aF P Y g args (aw so N) r (aw so N))(h:fk (f.ev U.tm) (b.map (·.ev U.tm))=some (g,args))(d:Fv so N T)(e:∀a∈args,eC N a)(i:eC N r):D P Y dr (.call f b) U T r T :=D.call h (c.same d e i) λ_=>rfl
end
theorem D.J_{k:Nat}{a:AV}(h:x.ev U.tm=.mp k)(j:S.get k=some (.mp es))(l:qF es)(hi:i.ev U.tm=.v (.int .i64 m))(p:b.ev U.tm=a):D P Y true (.oW x i b) U S (.v undef) (S.set k (some (.mp (Ds es m a)))):=by intro n o q;obtain⟨t,u,v,y,B,C,kk,d,rfl,rfl,rfl,r,s⟩:=I2 q;rw[aT]at h hi p;have e:∀z∈[u,v,y],(U.only (dS o)).ev z=U.ev z:=λz w=>gI λt A=>gJ (by rw[d];simp[Op.operands,<-A];simpa using w);exact⟨(PF d r s X j l (by rw[e v aB];exact hi) X).ops λc e=>X,λf=>(by rw[d]at f;cases f),λg=>by rw[d]at g;cases g⟩
theorem H.J_{rd:Bool}{n:Nat}{Q:Exit->AA->ah->Prop}{l:List QI}{K:List gw}{O:Hd}{T:Type}{f:T->AV}{kv:List (Int×T)}{k:Nat}{v:T}(c:bC U.tm g=some true)(e:x.ev U.tm=.mp k)(j:S.get k=some (.mp (O.h (dT f) kv)))(hi:i.ev U.tm=.v (.int .i64 m))(o:b.ev U.tm=f v)(p:∀a,a=gU kv m v->H P Y rd n Q (.bj true l K) (bU d U (.v undef)) (S.set k (some (.mp (O.h (dT f) a))))):H P Y rd n Q (.bj true (⟨d,g,.oW x i b⟩::l) K) U S:=by have h:=D.J_ (P:=P) (Y:=Y) e j (by rw[O.eq];exact uh) hi o;rw[O.eq,I3,<-O.eq (dT f)]at h;exact H.op (i:=⟨d,g,.oW x i b⟩) c h (p _ rfl)
theorem St.Hv{A:Nat->Prop}{g:Gh}{k:Nat}{ob:Ob}{es':List (Value×AV)}{entries entries':Array MapEntry}{clock:Nat}(c:St Y A g S w)(d:S.get k=some ob)(f:∀J,ob≠.fo J)(h:g.al k)(b:w.heap[g.ob k]?=some (.map entries clock))(j:entries'.size=es'.length)(l:∀(i:Nat) (k:Value) (a:AV),es'[i]?=some (k,a)->∃e:MapEntry,entries'[i]?=some e/\e.key=k/\aO g w a e.val)(m:∀(i:Nat) (e:MapEntry),entries'[i]?=some e->e.born=i):∃w',(setObj (g.ob k) (.map entries' entries'.size)).run P w=.ok () w'/\St Y A g (S.set k (some (.mb es'))) w'/\Ext A g w g w':=by have n:({w with heap:=w.heap.setIfInBounds (g.ob k) (.map entries' entries'.size) }:World).heap[g.ob k]?=some (.map entries' entries'.size):=X;let⟨o,p⟩:=c.putObj (ob:=.mb es') d h (λJ=>⟨f J,aB⟩) (x':=.map entries' entries'.size) rfl λq=>by simp only[World.cell?,n,b] λr s=>⟨entries',s,j,λi key a t=>by let⟨e,q1,u,v⟩:=l i key a t;exact⟨e,q1,u,v.later r⟩,m⟩;exact⟨_,by simp[setObj,Sem.run,b],p,o⟩
theorem VD(c:o.op=.makeMap t none):a_ P Y n o U S (.mp S.nx) (S.new (.mb [])):=by intro A g q w d l;let⟨f,j⟩:=d.new (.map #[] 0) (.mb []) 0 (λJ=>aB) λm=>⟨#[],eg,rfl,λi k a h=>X,λi e h=>X⟩;have b:=aO.mp (g:=g.new S.nx w.heap.size 0) (w:=w.alloc (.map #[] 0)) (.inr rfl);rw[show(g.new S.nx w.heap.size 0).ob S.nx=w.heap.size from aG _ _ _]at b;refine⟨_,_,_,.inl ?_,b,j,f⟩;simp[execOp,c,Instr.makeMap,newObj,Sem.run]
theorem D.Ka:D P Y false (.kN none) U S (.mp S.nx) (S.new (.mb [])):=D.run λn o a=>by let⟨t,y,d,e,b,c,f⟩:=Fx a;cases y with|some y=>cases c|none=>exact VD b
theorem D.f_{c:Bool}{k:Nat}(b:x.ev U.tm=.mp k)(d:S.get k=some (.mb es))(e:qF es)(hi:i.ev U.tm=.v (.int .i64 m)):D P Y false (.look z c x i) U S (match uW es m with|some a=>if c then .aL [a,.v (.bool true)] else a|none=>if c then .aL [z,.v (.bool false)] else z) S:=D.run λn o f=>by obtain⟨t,u,v,B,C,kk,E,h,rfl,rfl,j,l,p,rfl⟩:=I4 f;rw[aT]at b hi;exact Fy h j l p b (λA g w q r=>by let⟨_,_,entries,q1,s,y,_⟩:=q.cX k _ d r;exact⟨entries,_,q1,s,y⟩) e hi
theorem X8{W et:TypeId}{x i y:Operand}{k:Nat}{b:AV}(ho:o.op=.mapUpdate t x i y)(ht:P.underlying t=some (.map W et))(p:P.underlying W=some (.int kk))(hx:U.ev x=.mp k)(u:S.get k=some (.mb es))(hk:qF es)(hi:U.ev i=.v (dD m))(hy:U.ev y=b):a_ P Y n o U S (.v undef) (S.set k (some (.mb (Ds es m b)))):=by
 intro A g q w z B;have h1:=B.ev x;have h2:=B.ev i;have C:=B.ev y;rw[hx]at h1;rw[hi]at h2;rw[hy]at C;let⟨e1,E⟩:=uO h1;have e2:=cA h2;let⟨v,F⟩:∃v,q.eval y=v:=⟨_,rfl⟩;rw[F]at C;let⟨_,_,entries,r,s,G,K⟩:=z.cX k _ u E;have l:=Fz s G hk (kk:=kk) m;unfold Ds;cases L:nh es m with|none =>
  rw[L]at l;let⟨M,q1,N,Q⟩:=z.Hv (P:=P) u (λJ=>aB) E r (entries':=entries.push {key:=dD m,val:=v,born:=entries.size }) (es':=es++[(dD m,b)]) (by simp[s]) (λi key a hi=>by
   by_cases c:i<es.length;rw[bj_ c]at hi;let⟨e,h,T,r3⟩:=G i key a hi;exact⟨e,X,T,r3⟩;rw[bv_ Z]at hi;have Pq:i=es.length:=by have:=(aB_.1 hi).1;simp at this;omega
   subst Pq;simp at hi;obtain⟨rfl,rfl⟩:=hi;exact⟨{key:=dD m,val:=v,born:=entries.size },by rw[<-s];simp,rfl,C⟩) (λi e f=>by rw[dQ_]at f;split at f;rename_i V;rw[<-oJ_ f,V];exact K i e f);refine⟨undef,M,g,.inr ⟨?_,rfl⟩,.v,N,Q⟩;simp only[Array.size_push]at q1;simp only[execOp,ho,e1,e2,F,Instr.mapUpdate,Sem.run_bind,run_underlying ht,Result.andThen_ok,iO r,run_checkKey p,run_findKey p l,q1,Sem.run_pure]|some j =>
  let⟨a,ha⟩:=yU hk L;let⟨e,h,T,r3⟩:=G j _ a ha;rw[L]at l;simp only[h,aK_]at l;have nw:j<entries.size:=(cz_.1 h).1;let⟨M,q1,N,Q⟩:=z.Hv (P:=P) u (λJ=>aB) E r (entries':=entries.modify j λe=>{e with key:=dD m,val:=v }) (es':=es.set j (dD m,b)) (by simp[s]) λi key a' hi=>by grind[dD] (λi V f=>by rw[dR_]at f;split at f;rename_i c;subst c;rw[h]at f;cases oJ_ f;exact K j e h;exact K i V f);refine⟨undef,M,g,.inr ⟨?_,rfl⟩,.v,N,Q⟩;have fF:(Instr.keyThatStays ((entries[j]?.map (·.key)).getD (dD m)) (dD m)).run P w=.ok (dD m) w:=by rw[h];simp[Instr.keyThatStays,T,Instr.sameBits,dD]
  simp only[Array.size_modify]at q1;simp only[execOp,ho,e1,e2,F,Instr.mapUpdate,Sem.run_bind,run_underlying ht,Result.andThen_ok,iO r,run_checkKey p,run_findKey p l,fF,q1,Sem.run_pure]
theorem D.AF{k:Nat}{a:AV}(c:x.ev U.tm=.mp k)(e:S.get k=some (.mb es))(f:qF es)(hi:i.ev U.tm=.v (.int .i64 m))(d:b.ev U.tm=a):D P Y false (.oW x i b) U S (.v undef) (S.set k (some (.mb (Ds es m a)))):=D.run λn o g=>by obtain⟨t,u,v,y,p,q,kk,h,rfl,rfl,rfl,j,l⟩:=I2 g;rw[aT]at c hi d;exact X8 h j l c e f hi d
theorem aa8{o:Op}(h:res P.toTables o=some (.I5 z x i)):∃t u v a b kk c,o=.mapEntry t u v/\x=qo u/\i=qo v/\P.underlying t=some (.map a b)/\P.underlying a=some (.int kk)/\eu P b=some c/\z=lift c:=by cases o with|mapEntry t u v =>simp only[res,cM,kV]at h;split at h;grind;grind|_ =>
  simp only[res]at h;repeat' split at h
  all_goals cases h
theorem aa9{o:Op}(h:res P.toTables o=some (.I6 x i b)):∃t u v y,o=.entryStore t u v y/\x=qo u/\i=qo v/\b=qo y:=by cases o with|entryStore t u v y =>simp only[res,cM]at h;split at h;grind;grind|_ =>
  simp only[res]at h;repeat' split at h
  all_goals cases h
theorem aa_{l E:TypeId}{b:Value}{k:Nat}(ho:o.op=.mapEntry t u v)(ht:P.underlying t=some (.map l E))(F:P.underlying l=some (.int kk))(hz:eu P E=some b)(f:U.ev u=.mp k)(G:S.get k=some (.mb es))(K:qF es)(hi:U.ev v=.v (.int .i64 m))(y:uW es m=none):a_ P Y n o U S (.aL [lift b,.v (.int .i64 es.length)]) (S.set k (some (.mb (es++[(dD m,lift b)])))):=by
 intro A g q w L M;have N:=M.ev u;have Q:=M.ev v;rw[f]at N;rw[hi]at Q;let⟨e1,R⟩:=uO N;have z:=cA Q;let⟨_,_,entries,T,p,V,p4⟩:=L.cX k _ G R;have W:=Fz p V K (kk:=kk) m;have r:nh es m=none:=by unfold uW at y;cases r:nh es m with|none=>rfl|some j =>let⟨a,d⟩:=yU K r;rw[r]at y;simp[d]at y
 rw[r]at W;let⟨w',q1,q2,q3⟩:=L.Hv (P:=P) G (λJ=>aB) R T (entries':=entries.push {key:=dD m,val:=b,born:=entries.size }) (es':=es++[(dD m,lift b)]) (by simp[p]) (λi key a hi=>by
  by_cases c:i<es.length;rw[bj_ c]at hi;let⟨e,r1,r2,r3⟩:=V i key a hi;exact⟨e,X,r2,r3⟩;rw[bv_ Z]at hi;have Pq:i=es.length:=by have:=(aB_.1 hi).1;simp at this;omega
  subst Pq;simp at hi;obtain⟨rfl,rfl⟩:=hi;exact⟨{key:=dD m,val:=b,born:=entries.size },by rw[<-p];simp,rfl,y7 b⟩) (λi e s=>by rw[dQ_]at s;split at s;rename_i e';rw[<-oJ_ s,e'];exact p4 i e s);refine⟨.tuple #[b,goInt entries.size],w',g,.inl ?_,?_,q2,q3⟩;simp only[Array.size_push]at q1;have B:(Instr.checkKey false 10000 l (dD m)).run P w=.ok () w:=run_checkKey F false m;have C:(Instr.findKey l (dD m) entries.toList).run P w=.ok none w:=run_findKey F W;have z:q.eval v=dD m:=z;simp only[execOp,ho,e1,z,Instr.mapEntry,Sem.run_bind,run_underlying ht,Result.andThen_ok,iO T,B,C,pC hz,q1,Sem.run_pure];refine .aL rfl λi a x d f=>?_;match i with|0=>simp at d f;subst d f;exact y7 b|1=>simp at d f;subst d f;rw[p];exact .v|i+2=>simp at d
theorem bm.I5{k:Nat}(h:x.ev U.tm=.mp k)(y:S.get k=some (.mb es))(j:qF es)(hi:i.ev U.tm=.v (.int .i64 m))(l:uW es m=none):bm P Y B (.I5 z x i) U S (.aL [z,.v (.int .i64 es.length)]) ⟨[(k,.mb es)],[(k,some (.mb (es++[(dD m,z)])))],false⟩:=by
 intro n o q;obtain⟨t,u,v,A,C,kk,g,a,rfl,rfl,b,r,d,rfl⟩:=aa8 q;rw[aT]at h hi;refine⟨λf=>(by rw[a]at f;cases f),show iC S [(k,.mb es)] fromλp f=>X,λT _ s _=>?_⟩;have e:∀z∈[u,v],(U.only (dS o)).ev z=U.ev z:=λz d=>gI λt b=>gJ (by rw[a];simp[Op.operands,<-b];simpa using d);have w:eX T [(k,some (.mb (es++[(dD m,lift g)])))] false=T.set k (some (.mb (es++[(dD m,lift g)]))):=by cases T;rfl
 rw[w];exact(aa_ a b r d X (s (k,_) aB) j X l).ops λc e=>X
theorem aba{y:Operand}{k j:Nat}{a:AV}(M:o.op=.entryStore t u v y)(N:U.ev u=.mp k)(r:S.get k=some (.mb es))(hi:U.ev v=.v (.int .i64 j))(Q:U.ev y=a)(R:es[j]?=some p):a_ P Y n o U S (.v undef) (S.set k (some (.mb (es.set j (p.1,a))))):=by
 intro A g q w s h;have x:=h.ev u;have z:=h.ev v;have B:=h.ev y;rw[N]at x;rw[hi]at z;rw[Q]at B;let⟨T,C⟩:=uO x;have V:=cA z;let⟨W,E⟩:∃v,q.eval y=v:=⟨_,rfl⟩;rw[E]at B;let⟨_,_,entries,F,p2,G,f⟩:=s.cX k _ r C;let⟨K,pa⟩:=p;let⟨e,l,r2,r3⟩:=G j K pa R;have L:j<entries.size:=(cz_.1 l).1;have TS:entries.findIdx? λe=>(e.born:Int)==(j:Int)=some j:=by rw[Array.findIdx?_eq_some_iff_getElem];refine⟨L,?_,λi hi=>?_⟩;have:=f j _ (aM_ L);simp[this];have:=f i _ (aM_ Z);simp[this];omega
 let⟨w',q1,q2,q3⟩:=s.Hv (P:=P) r (λJ=>aB) C F (entries':=entries.modify j λe=>{e with val:=W }) (es':=es.set j (K,a)) (by simp[p2]) (λi key a' hi=>by rw[List.getElem?_set]at hi;by_cases c:j=i;grind;rw[if_neg c]at hi;let⟨m,s1,s2,s3⟩:=G i key a' hi;exact⟨m,X,s2,s3⟩) (λi m d=>by rw[dR_]at d;split at d;rename_i c;subst c;rw[l]at d;cases oJ_ d;exact f j e l;exact f i m d);refine⟨undef,w',g,.inr ⟨?_,rfl⟩,.v,q2,q3⟩;simp only[Array.size_modify]at q1;simp only[execOp,M,T,V,E,Instr.entryStore,Sem.run_bind,Sem.run_pure,Result.andThen_ok,iO F,asInt,asIntOf,TS,q1]
theorem bm.I6{k j:Nat}{a:AV}(g:x.ev U.tm=.mp k)(A:S.get k=some (.mb es))(hi:i.ev U.tm=.v (.int .i64 j))(h:b.ev U.tm=a)(l:es[j]?=some p):bm P Y B (.I6 x i b) U S (.v undef) ⟨[(k,.mb es)],[(k,some (.mb (es.set j (p.1,a))))],false⟩:=by
 intro n o m;obtain⟨t,u,v,y,d,rfl,rfl,rfl⟩:=aa9 m;rw[aT]at g hi h;refine⟨λf=>(by rw[d]at f;cases f),show iC S [(k,.mb es)] fromλp f=>X,λT _ q _=>?_⟩;have e:∀z∈[u,v,y],(U.only (dS o)).ev z=U.ev z:=λz r=>gI λt s=>gJ (by rw[d];simp[Op.operands,<-s];simpa using r);have w:eX T [(k,some (.mb (es.set j (p.1,a))))] false=T.set k (some (.mb (es.set j (p.1,a)))):=by cases T;rfl
 rw[w];exact(aba d X (q (k,_) aB) X X l).ops λc e=>X
section
variable{rd:Bool}
variable{T:Type}{f:T->AV}{kv:List (Int×T)}
theorem H.Ka(O:Hd)(f:T->AV)(a:bC U.tm g=some true)(b:∀kv:List (Int×T),kv=[]->H P Y rd n Q (.bj false l K) (bU d U (.mp S.nx)) (S.new (.mb (O.h (dT f) kv)))):H P Y rd n Q (.bj false (⟨d,g,.kN none⟩::l) K) U S:=by have h:=b [] rfl;rw[O.eq]at h;exact H.op (i:=⟨d,g,.kN none⟩) a D.Ka h
theorem H.f_{c:Bool}{k:Nat}(b:bC U.tm g=some true)(e:x.ev U.tm=.mp k)(j:S.get k=some (.mb (O.h (dT f) kv)))(hi:i.ev U.tm=.v (.int .i64 m))(o:∀v,aH kv m=some v->H P Y rd n Q (.bj false l K) (bU d U (if c then .aL [f v,.v (.bool true)] else f v)) S)(p:aH kv m=none->H P Y rd n Q (.bj false l K) (bU d U (if c then .aL [z,.v (.bool false)] else z)) S):H P Y rd n Q (.bj false (⟨d,g,.look z c x i⟩::l) K) U S:=by have h:=D.f_ (P:=P) (Y:=Y) (z:=z) (c:=c) e j (by rw[O.eq];exact uh) hi;rw[O.eq,AG]at h;refine H.op (i:=⟨d,g,.look z c x i⟩) b h ?_;cases a:aH kv m with|some v=>exact o v a|none=>exact p a
theorem H.AF{k:Nat}{v:T}(c:bC U.tm g=some true)(e:x.ev U.tm=.mp k)(j:S.get k=some (.mb (O.h (dT f) kv)))(hi:i.ev U.tm=.v (.int .i64 m))(o:b.ev U.tm=f v)(p:∀a,a=gU kv m v->H P Y rd n Q (.bj false l K) (bU d U (.v undef)) (S.set k (some (.mb (O.h (dT f) a))))):H P Y rd n Q (.bj false (⟨d,g,.oW x i b⟩::l) K) U S:=by have h:=D.AF (P:=P) (Y:=Y) e j (by rw[O.eq];exact uh) hi o;rw[O.eq,I3,<-O.eq (dT f)]at h;exact H.op (i:=⟨d,g,.oW x i b⟩) c h (p _ rfl)
theorem H.adY{lg:List (List Nat×List Nat×Bool)}{k:Nat}{z0:T}(b:bC U.tm g=some true)(c:x.ev U.tm=.mp k)(o:S.get k=some (.mb (O.h (dT f) kv)))(hi:i.ev U.tm=.v (.int .i64 m))(p:f z0=z)(q:aH kv m=none)(r:∀a (j:Int),a=kv++[(m,z0)]->j=kv.length->H P Y rd n Q (.kC B V (lg++[([k],[k],false)]) rs l K) (bU d U (.aL [z,.v (.int .i64 j)])) (eX S [(k,some (.mb (O.h (dT f) a)))] false)):H P Y rd n Q (.kC B V lg rs (⟨d,g,.I5 z x i⟩::l) K) U S:=by
 have h:=bm.I5 (P:=P) (Y:=Y) (B:=B) (z:=z) c o (by rw[O.eq];exact uh) hi (by rw[O.eq,AG,q];rfl);have s:=r _ _ rfl rfl;have e:O.h (dT f) kv++[(dD m,z)]=O.h (dT f) (kv++[(m,z0)]):=by rw[O.eq,O.eq];simp[dT,p]
 have t:(O.h (dT f) kv).length=kv.length:=by rw[O.eq];simp[dT]
 rw[e,t]at h;exact H.gD (i:=⟨d,g,.I5 z x i⟩) b h s
theorem H.adZ{lg:List (List Nat×List Nat×Bool)}{k:Nat}{j:Int}{v z0:T}{a:List (Int×T)}(q:bC U.tm g=some true)(r:x.ev U.tm=.mp k)(s:S.get k=some (.mb (O.h (dT f) kv)))(hi:i.ev U.tm=.v (.int .i64 j))(t:b.ev U.tm=f v)(u:kv=a++[(m,z0)])(w:j=a.length)(y:∀c,c=a++[(m,v)]->H P Y rd n Q (.kC B V (lg++[([k],[k],false)]) rs l K) (bU d U (.v undef)) (eX S [(k,some (.mb (O.h (dT f) c)))] false)):H P Y rd n Q (.kC B V lg rs (⟨d,g,.I6 x i b⟩::l) K) U S:=by
 subst u w;have o:(dT f a).length=a.length:=by simp[dT]
 have e:dT f (a++[(m,z0)])=dT f a++[(dD m,f z0)]:=by simp[dT]
 have h:=bm.I6 (P:=P) (Y:=Y) (B:=B) (p:=(dD m,f z0)) r s hi t (by rw[O.eq,e,<-o];simp);have z:=y _ rfl;have A:(O.h (dT f) (a++[(m,z0)])).set a.length (dD m,f v)=O.h (dT f) (a++[(m,v)]):=by rw[O.eq,O.eq,e,<-o,cZ_ _ _ (ad_ _)];simp[dT]
 rw[A]at h;exact H.gD (i:=⟨d,g,.I6 x i b⟩) q h z
end
end Go.Proofs.YtbdcmpknicjopaaGreat
