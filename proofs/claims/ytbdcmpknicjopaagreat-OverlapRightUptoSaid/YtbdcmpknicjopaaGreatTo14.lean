import Derived.Test.YtbdcmpknicjopaaGreatTo13
namespace Go.Proofs.YtbdcmpknicjopaaGreat
set_option linter.all false
set_option maxRecDepth 100000
open Go.RowKit Proofs.Tryz
variable{B MO N n sz:Nat}{K:List iu}{O:Hd}{P:Program}{Q:Exit->AA->ao->Prop}{S S' S1:ao}{U:World}{V:List (Nat×Nat)}{Y:AA}{a r r':AV}{b i x:QO}{d dd:Option Nat}{dr ex ex':Bool}{gg:Option (Nat×Bool)}{j8:List QO}{l:List QI}{o:Oper}{rs:List Nat}{so:List (Nat×Ob)}
variable{T:Type}
section
attribute [local irreducible] aq aG D I
def auI:=aD func57 call57
def E2:=[11,5,0,2,8,10,12,9,3,24]
def apo:=aD func110 call110
def nL:=[3,0,2,6,10,45]
def lj{T:Type}(ok:T->Bool)(lt:T->T->Bool):Option T->List T->Bool|_,[]=>true|a,x::l=>ok x&&(match a with|none=>true|some p=>lt p x)&&lj ok lt (some x) l
def Bi{T:Type}(lt:T->T->Bool):Option T->T->Bool|none,_=>true|some p,x=>lt p x
theorem j_{ok:T->Bool}{lt:T->T->Bool}{a:Option T}{x:T}{l:List T}:lj ok lt a (x::l)=(ok x&&Bi lt a x&&lj ok lt (some x) l):=by cases a<;>rfl
theorem sv{ok:T->Bool}{lt:T->T->Bool}{a:Option T}:lj ok lt a []=true:=by cases a<;>rfl
def DW(x:Im):Bool:=decide (1<=x.id)&&fw ⟨x.n,x.a⟩
def DX(p x:Im):Bool:=decide (p.id<x.id)
def nU(l:List Im):Bool:=decide ((l.length:Int)<=500)&&lj DW DX none l
def tT:List Int->List Int->Int|[],[]=>0|[],_::_=>-1|_::_,[]=>1|x::a,y::b=>fP (jy x y) (tT a b)
def po(x y:Fi):Int:=fP (jy x.ud y.ud) (fP (jy x.ids.length y.ids.length) (tT x.ids y.ids))
def vg:List Int->List Int->Bool|_,[]=>true|s,x::l=>decide (1<=x) &&!s.contains x&&vg (s++[x]) l
def ue(f:Fi):Bool:=decide (0<=f.ud)&&decide (f.ud<40)&&decide (1<=(f.ids.length:Int))&&decide ((f.ids.length:Int)<=4)&&vg [] f.ids
def lu(l:List Fi):Bool:=decide ((l.length:Int)<=5000)&&lj ue (λp x=>decide (po p x<0)) none l
def Im.ok(x:Im):Prop:=pM x.a/\x.n.size<=1099511627776
def CM{T:Type}(l:List T)(k:Nat)(a:Option T):Prop:=k=0/\a=none\/∃y,0<k/\l[k-1]?=some y/\a=some y
theorem kc{l:List T}{k:Nat}{x:T}(h:l[k]?=some x):CM l (k+1) (some x):=.inr ⟨x,X,Z,rfl⟩
theorem Y0(l:List Im)(z:l.length<=1099511627776)(r:∀x∈l,x.ok):ad U 57 [mH O l] (.v (.bool (nU l))):=by
 let⟨R,g⟩:=au (nU l);rw[<-g];unfold nU at g;refine st auI E2 .v ?_;repeat' first|refine cg E2 (λa=>?_) λa=>?_|refine lg E2 λm A=>?_|refine fq ?_
 grind[aO];rw[decide_eq_true X,az_]at g;refine I.eH (σ:=Int×Int) 0 0 [] (λp=>[(3,.v (.int .i64 p.2)),(9,mH O l),(10,.v (.int .i64 m)),(11,.v (.int .i64 p.1))]) [] (λ_=>[]) (λp=>∃(k:Nat) (b:Option Im),p.1=k/\k<=l.length/\R=lj DW DX b (l.drop k)/\(b=none/\p.2=0\/∃y,b=some y/\p.2=y.id/\1<=y.id)) (λp=>l.length-p.1.toNat) (0,0) ⟨0,none,rfl,aE,Z,.inl ⟨rfl,rfl⟩⟩ rfl cq ?_;rintro⟨i,j⟩ ⟨k,b,n,C,c,s⟩;simp only at n s;clear g;refine H E2 ?_;by_cases t:k<l.length
 ·let⟨x,o,u⟩:=aC t;rw[u,j_]at c;let⟨d,e,f⟩:=x;let⟨q,h⟩:=r _ (aZ o);have v:=Ii (U:=U) (O:=O) ⟨e,f⟩ ⟨q.len,q.1⟩ h;have w:(DW ⟨d,e,f⟩&&Bi DX b ⟨d,e,f⟩)=(decide (j<d)&&fw ⟨e,f⟩):=by grind[DW,Bi,DX]
  rw[w]at c;repeat' first|refine og E2 (D.bw n o) ?_|refine bg E2 (pl v) (λ_=>?_) λ_=>?_|refine cg E2 (λa=>?_) λa=>?_|refine ag E2 λ_ _=>?_|refine xG E2 ?_|refine rG E2 ?_|refine fq ?_
  all_goals first|omega|refine aO ?_;rw[c,decide_eq_false (show¬j<d by omega)];rfl|refine aO ?_;rw[c,show fw ⟨e,f⟩=false by grind];simp;done|refine I.bu (_,d) [] ?_ ?_ cq;grind;simp only;omega
 ·skip;repeat' first|refine cg E2 (λa=>?_) λa=>?_|refine xG E2 ?_|refine fq ?_
  all_goals first|omega|rw[c,ar_ X,sv];exact aO rfl
theorem Y1(l:List Im)(y:l.length<=1099511627776)(r:∀x∈l,x.ok):ad U 110 [mH O l] (.v (.bool (nU l))):=by
 let⟨R,f⟩:=au (nU l);rw[<-f];unfold nU at f;refine st apo nL .v ?_;repeat' first|refine cg nL (λc=>?_) λc=>?_|refine lg nL λm h=>?_|refine fq ?_
 refine aO ?_;rw[f,decide_eq_false X];rfl;rw[decide_eq_true X,az_]at f;refine I.eH (σ:=Int) 0 0 [] (λi=>[(0,mH O l),(3,.v (.int .i64 i))]) [] (λ_=>[]) (λi=>∃(k:Nat) (j:Option Im),i=k/\k<=l.length/\R=lj DW DX j (l.drop k)/\CM l k j) (λi=>l.length-i.toNat) 0 ⟨0,none,rfl,aE,Z,.inl ⟨rfl,rfl⟩⟩ rfl cq ?_;rintro i⟨k,j,o,A,a,s⟩;clear f;refine H nL ?_;by_cases t:k<l.length
 ·let⟨x,g,u⟩:=aC t;rw[u,j_]at a;let⟨b,d,e⟩:=x;let⟨v,n⟩:=r _ (aZ g);have p:=JO (U:=U) (O:=O) ⟨d,e⟩ v n;rw[DW]at a;rcases s with⟨rfl,rfl⟩|⟨⟨q,B,C⟩,E,w,rfl⟩
  ·simp only[Bi]at a;repeat' first|refine og nL (D.bw o g) ?_|refine bg nL (pl p) (λ_=>?_) λ_=>?_|refine cg nL (λc=>?_) λc=>?_|refine lg nL λm h=>?_|refine ag nL λ_ _=>?_|refine xG nL ?_|refine rG nL ?_|refine fq ?_
   all_goals first|omega|refine aO ?_;rw[a,decide_eq_false (show¬1<=b by omega)];rfl|refine aO ?_;rw[a,show fw ⟨d,e⟩=false by grind];simp;done|refine I.bu _ [] ?_ ?_ cq;refine⟨0+1,some ⟨b,d,e⟩,X,X,?_,kc g⟩;rw[a,decide_eq_true (show 1<=b by omega),show fw ⟨d,e⟩=true by grind];rfl;omega
  ·simp only[DX,Bi]at a;repeat' first|refine og nL (D.bw o g) ?_|refine og nL (D.ind rfl rfl (du (l:=l) (k:=k-1) X w) (cJ λ_=>rfl)) ?_|refine bg nL (pl p) (λ_=>?_) λ_=>?_|refine cg nL (λc=>?_) λc=>?_|refine lg nL λm h=>?_|refine ag nL λ_ _=>?_|refine xG nL ?_|refine rG nL ?_|refine fq ?_
   all_goals first|omega|refine aO ?_;rw[a,decide_eq_false (show¬1<=b by omega)];rfl|refine aO ?_;rw[a,decide_eq_false (show¬q<b by omega)];simp;done|refine aO ?_;rw[a,show fw ⟨d,e⟩=false by grind];simp;done|refine I.bu _ [] ?_ ?_ cq;refine⟨k+1,some ⟨b,d,e⟩,X,X,?_,kc g⟩;rw[a,decide_eq_true (show 1<=b by omega),decide_eq_true (show q<b by omega),show fw ⟨d,e⟩=true by grind];rfl;omega
 ·skip;repeat' first|refine cg nL (λc=>?_) λc=>?_|refine lg nL λm h=>?_|refine xG nL ?_|refine fq ?_
  all_goals first|omega|rw[a,ar_ X,sv];exact aO rfl
def apq:=aD func186 call186
def Af:=[6,4,0,5,10,1,19]
def Bd.ok(x:Bd):Prop:=x.t.ok/\dD x.t<=1099511627776
def aci:Tm:=⟨0,0,⟨#[]⟩,[]⟩
def gG(b:List Bd)(v:Int):Tm×Bool:=match b.find? λx=>x.v==v with|some x=>(x.t,true)|none=>(aci,false)
theorem Qp{S:ao}{O:Hd}:aL S (.agg [.v (.int .i64 0),.v (.int .i64 0),.v (.string ⟨#[]⟩),.sl true []]) (tm O aci):=by refine .agg rfl λi a d b c=>?_;match i,b,c with|0,b,c=>cases oJ_ b;cases oJ_ c;exact .refl _|1,b,c=>cases oJ_ b;cases oJ_ c;exact .refl _|2,b,c=>cases oJ_ b;cases oJ_ c;exact .refl _|3,b,c =>cases oJ_ b;cases oJ_ c;rw[aci,tl,bN];exact aL.wk
theorem zu{S:ao}{a':AV}{b:Bool}(h:aL S a a'):aL S (.aM [a,.v (.bool b)]) (.aM [a',.v (.bool b)]):=by refine .aM rfl λi x e c d=>?_;match i,c,d with|0,c,d=>cases oJ_ c;cases oJ_ d;exact h|1,c,d=>cases oJ_ c;cases oJ_ d;exact .refl _
theorem Qq(b:List Bd)(v:Int)(p:b.length<=1099511627776):ad U 186 [a_ O b,iv v] (.aM [tm O (gG b v).1,.v (.bool (gG b v).2)]):=by
 let⟨R,e⟩:=au (gG b v);rw[<-e];refine st apq Af (.aM λa f=>by simp only[al_,aB_,or_false]at f;rcases f with rfl|rfl;exact bM _;exact .v) ?_;refine bL 1 1 [] (λi=>[(0,a_ O b),(1,.v (.int .i64 v)),(4,.pt 0 4 0 0),(6,.v (.int .i64 i))]) [] (λ_=>[(0,.arr 4 [[.v (.int .i64 0),.v (.int .i64 0),.v (.string ⟨#[]⟩),.sl true []]] 0 true)]) b.length (λk=>R=gG (b.drop k) v) Z λi k h q c=>?_;clear e;refine H Af ?_;by_cases j:k<b.length
 ·let⟨x,l,n⟩:=aC j;rw[n,gG,cJ_]at c;let⟨g,r,s,t,u⟩:=x;repeat' first|refine og Af (D.bw h l) ?_|refine cg Af (λd=>?_) λd=>?_|refine lg Af λm o=>?_|refine ag Af λ_ _=>?_|refine xG Af ?_|refine rG Af ?_|refine fq ?_
  all_goals first|omega|rw[show(g==v)=true by grind]at c;subst c;exact aL.of_eq rfl|rw[show(g==v)=false by grind]at c;exact cw _ [] (k+1) (by rw[c];rfl)
 ·skip;repeat' first|refine cg Af (λd=>?_) λd=>?_|refine lg Af λm o=>?_|refine xG Af ?_|refine fq ?_
  all_goals first|omega|skip
  rw[ar_ X,gG]at c;subst c;exact zu Qp
end
section
variable{rd:Bool}{lg:List (List Nat×List Nat×Bool)}
theorem jZ.rv(h:jZ P U n o Y S r S')(k:Rv U r S' r' S1):jZ P U n o Y S r' S1:=by intro F m A g a w c R d e f i;refine h F m A g a w c R d e f λv b j l p q=>?_;let⟨s,t,u,k3⟩:=k A g j w b v p l;exact i v b s u t (q.trans k3)
theorem Rv.move{k len:Nat}{rows:List (List AV)}(F:S.get k=some (.arr sz rows 0 ex)):Rv U (.gr k sz len) S (.gr S.nx sz len) ((S.set k none).new (.arr sz rows 0 false)):=by
 intro A g0 g w0' w v f hr;let⟨T,G⟩:=au ((S.set k none).new (.arr sz rows 0 false));let⟨m,s⟩:∃m:Gh,m=⟨bK g.ob S.nx (g.ob k),bK g.cp S.nx (g.cp k),λj=>g.al j\/j=S.nx/\g.al k,g.fz,g.fo⟩:=⟨_,rfl⟩;have qv:¬g.al S.nx:=λh=>bX_ _ (f.al _ h);have t:∀j,j≠S.nx->m.ob j=g.ob j:=λj e=>by rw[s];exact aR _ _ e
 have z:∀j,j≠S.nx->m.cp j=g.cp j:=λj e=>by rw[s];exact aR _ _ e
 have B:m.ob S.nx=g.ob k:=by rw[s];exact aK _ _ _
 have M:m.cp S.nx=g.cp k:=by rw[s];exact aK _ _ _
 have n:∀j,m.al j->j≠S.nx->g.al j:=λj h e=>by rw[s]at h;rcases h with h|⟨h,_⟩;grind;grind
 have u:m.al S.nx->g.al k:=λh=>by rw[s]at h;rcases h with h|⟨_,h⟩;grind;grind
 have ne:∀j,g.al j->j≠S.nx:=λj h e=>qv (e ▸ h);have V:Later g w m w:=⟨λj h=>by rw[s];exact .inl h,λj h=>t j (ne j h),λj h=>z j (ne j h),λb o h=>by rw[s];exact h,λ_ _ _=>rfl⟩;have yQ:m.fz=g.fz:=Z;have W:m.fo=g.fo:=Z;have Tn:T.get S.nx=some (.arr sz rows 0 false):=by rw[G];exact aK _ _ _
 have r:∀j p,j≠S.nx->T.get j=some p->j≠k/\S.get j=some p:=by intro j p e h;rw[G]at h;have h:bK (S.set k none).get S.nx (some (.arr sz rows 0 false)) j=some p:=h;rw[aR _ _ e]at h;have h:bK S.get k none j=some p:=h;by_cases K:j=k;grind[aK];grind[aR]
 have L:∀j J,T.get j=some (.fo J)->j≠S.nx:=λj J h e=>Z;have hE:Ext A g w m w:={V with size:=aj_ _,aP:=λ_ _ _=>rfl,lN:=λb o h=>by grind};have C:∀{b cp:Nat}{o:Ob},fM g w b cp o->fM m w b cp o:=λh=>h.later V rfl (λq h=>Z) λJ _=>⟨Z,aj_ _,λ_ _=>rfl,λc q _ h=>Z⟩;rw[<-G];refine⟨m,⟨f.base,f.up,f.lo,λj h=>?_,λj p d h=>?_,λi j p q y d x E e=>?_,λb q h=>f.dU b q Z,λb q h=>by rw[yQ];exact f.uA b q h,λj J d h=>?_,λj J i p d h y x e=>?_,λi j J J' y d x E=>?_⟩,?_,hE⟩;have e:T.nx=S.nx+1:=by rw[G];rfl
 rw[e];by_cases a:j=S.nx;omega;have:=f.al j (n j h a);omega;by_cases a:j=S.nx;subst a;rw[Tn]at d;cases oJ_ d;let⟨q1,N,P⟩:=f.dh k _ F (u h);rw[B,M];refine⟨q1,N,?_⟩;let⟨cs,ty,h1,h2,h3,h4,h5,h6,h7⟩:=C P;exact⟨cs,ty,h1,h2,h3,λh=>Z,h5,h6,h7⟩;let⟨_,Q⟩:=r j p a d;let⟨q1,N,P⟩:=f.dh j p Q (n j h a);rw[t j a,z j a];exact⟨q1,N,C P⟩;by_cases l:i=S.nx;by_cases a:j=S.nx;grind;exfalso;subst l;let⟨K,Q⟩:=r j q a d;rw[B,t j a]at e;exact K (f.inj k j _ q F Q (u x) (n j E a) e).symm;by_cases a:j=S.nx;exfalso;subst a;let⟨K,iU⟩:=r i p l y;rw[B,t i l]at e;exact K (f.inj i k p _ iU F (n i x l) (u E) e);rw[t i l,t j a]at e;exact f.inj i j p q (r i p l y).2 (r j q a d).2 (n i x l) (n j E a) e;have a:=L j J d;rw[t j a,W];exact f.l9 j J (r j _ a d).2 (n j h a);have a:=L j J d;rw[t j a,W];by_cases l:i=S.nx;subst l;rw[B];exact f.oZ j J k _ (r j _ a d).2 (n j h a) F (u x) (r j _ a d).1.symm;rw[t i l];exact f.oZ j J i p (r j _ a d).2 (n j h a) (r i p l y).2 (n i x l) e;have l:=L i J y;have a:=L j J' d;exact f.qY i j J J' (r i _ l y).2 (r j _ a d).2 (n i x l) (n j E a);rcases tr hr with⟨h,A',rfl⟩|⟨j7,c,rfl,hx,R⟩;subst h;exact .lM;rw[<-B];refine .gr (by rw[s];exact .inr ⟨rfl,j7⟩) Z R
theorem Rv.nil:Rv U (.sl true []) S (.gr S.nx sz 0) (S.new (.arr sz [] 0 false)):=by intro A g0 g o w v b r;let⟨f,s,t,u⟩:=(show∃f,St U A f (S.new (.arr sz [] 0 false)) w/\aT f w (.gr S.nx sz 0) v/\Ext A g w f w from by
  have key:∀k p,(S.new (.arr sz [] 0 false)).get k=some p->g.al k->S.get k=some p:=λk p a c=>by have z:=b.al k c;have a:bK S.get S.nx (some (.arr sz [] 0 false)) k=some p:=a;rwa[aR _ _ X]at a
  refine⟨g,⟨b.base,b.up,b.lo,λk a=>cr_ (b.al k a),λk p a c=>b.dh k p (key k p a c) c,λi j p q x h m d e=>b.inj i j p q (key i p x m) (key j q h d) m d e,b.dU,b.uA,λk J a c=>b.l9 k J (key k _ a c) c,λk J j p a c h d=>b.oZ k J j p (key k _ a c) c (key j p h d) d,λj k J y h a d n=>b.qY j k J y (key j _ h d) (key k _ a n) d n⟩,?_,Ext.refl ..⟩;cases r with|nil l=>cases l rfl;exact .lM|sl l=>exact absurd rfl l);exact⟨f,s,t,u⟩
theorem Rv.acj{k len:Nat}:Rv U (.ob k sz 0 len none) S (.gr k sz len) S:=by intro A g0 g a w v b c;refine⟨g,b,?_,Ext.refl ..⟩;cases c with|ob q1 e f h d=>rw[be_];exact .gr q1 Z d
section
variable{T:Type}{f:T->List AV}{MP ys:List T}
theorem I.vh{t:Nat}{k len:Nat}(j:bJ Y.tm gg=some true)(h1:Y.tm t=.gr k sz len)(e:S.get k=some (.arr sz (O.h (List.map f) MP) 0 ex))(m:len=MP.length)(p:∀c,b.ev (bK Y.tm t c)=b.ev Y.tm)(g:b.ev Y.tm=aQ O f ex' ys)(r:∀x,(f x).length=sz)(s:∀x,(f x).all dv=true)(u:(len+ys.length)*MO<=35184372088832)(kk:∀a d,a=MP++ys->d=a.length->I P U rd n Q (.bp false l K) (bX dd Y (.gr S.nx sz d)) ((S.set k none).new (.arr sz (O.h (List.map f) a) 0 false))):I P U rd n Q (.bp false (⟨dd,gg,.append sz MO (.t t) b⟩::l) K) Y S:=by have z:(O.h (List.map f) MP).length=MP.length:=aA;by_cases q:ys=[];subst q;rw[bN]at g;have h:=kk MP len aE m;exact I.op (i:=⟨dd,gg,.append sz MO (.t t) b⟩) j (λn o v=>(F8 v h1 e X p (by rw[g];exact jt)).rv (Rv.move e)) h;exact I.ach j h1 e m p g r s u (λh=>absurd h q) λa d _ w y=>kk a d w y
theorem I.WC{t:Nat}{k len:Nat}(m:bJ Y.tm gg=some true)(h1:Y.tm t=.gr k sz len)(p:S.get k=some (.arr sz (O.h (List.map f) MP) 0 ex))(v:len=MP.length)(q:∀c,b.ev (bK Y.tm t c)=b.ev Y.tm)(a:b.ev Y.tm=aQ O f ex' ys)(w:∀x,(f x).length=sz)(z:∀x,(f x).all dv=true)(L:(len+ys.length)*MO<=35184372088832)(kk:∀g r,g=MP++ys->r=g.length->I P U rd n Q (.kM B V (lg++[([k],[S.nx,k],true)]) rs l K) (bX dd Y (.gr S.nx sz r)) (fA S [(S.nx,some (.arr sz (O.h (List.map f) g) 0 false)),(k,none)] true)):I P U rd n Q (.kM B V lg rs (⟨dd,gg,.append sz MO (.t t) b⟩::l) K) Y S:=by have M:(O.h (List.map f) MP).length=MP.length:=aA;rw[bN]at a;cases ys with|nil =>have h:=kk MP len aE v;refine I.eV (i:=⟨dd,gg,.append sz MO (.t t) b⟩) (d:=⟨[(k,.arr sz (O.h (List.map f) MP) 0 ex)],[(S.nx,some (.arr sz (O.h (List.map f) MP) 0 false)),(k,none)],true⟩) m ?_ h;have A:=bj.apm (P:=P) (U:=U) (B:=B) (MO:=MO) h1 p X q a;intro n o j;let⟨N,C,E⟩:=A n o j;refine⟨λR=>by grind[CL,zt],C,λT F s G=>?_⟩;have u:=E T F s λh=>Z;rw[show fA T [] false=T from lR]at u;have J:=u.rv (Rv.move (U:=U) (len:=len) (s (k,.arr sz (O.h (List.map f) MP) 0 ex) aE));rw[<-G rfl,ij];exact J|cons y ys =>
  have h:=kk _ _ rfl rfl;have e:O.h (List.map f) MP++List.map f (y::ys)=O.h (List.map f) (MP++y::ys):=by rw[O.eq,O.eq,ba_]
  rw[<-e,show(MP++y::ys).length=len+(f y::List.map f ys).length by grind]at h;refine I.eV (i:=⟨dd,gg,.append sz MO (.t t) b⟩) m (bj.gM (x:=f y) (GL:=List.map f ys) h1 p X q a (λrow j=>?_) Z) h;obtain⟨x,_,rfl⟩:=aE_.1 (show row∈List.map f (y::ys) from j);exact⟨w x,z x⟩
theorem I.O5{a:QO}(v:bJ Y.tm gg=some true)(h1:a.ev Y.tm=.sl true [])(g:b.ev Y.tm=aQ O f ex' ys)(z:∀x,(f x).length=sz)(A:ys.length*MO<=35184372088832)(kk:∀j t,j=ys->t=j.length->I P U rd n Q (.kM B V (lg++[([],[S.nx],true)]) rs l K) (bX dd Y (.gr S.nx sz t)) (fA S [(S.nx,some (.arr sz (O.h (List.map f) j) 0 false))] true)):I P U rd n Q (.kM B V lg rs (⟨dd,gg,.append sz MO a b⟩::l) K) Y S:=by rw[bN]at g;have h:=kk _ _ rfl rfl;rw[O.eq]at h;refine I.eV (i:=⟨dd,gg,.append sz MO a b⟩) (d:=⟨[],[(S.nx,some (.arr sz (List.map f ys) 0 false))],true⟩) v ?_ h;cases ys with|nil =>have k:=bj.MB (P:=P) (U:=U) (B:=B) (S:=S) (sz:=sz) (MO:=MO) h1 g;intro n o c;let⟨u,m,p⟩:=k n o c;refine⟨λC=>by grind[CL,zt],m,λT q r s=>?_⟩;have e:=p T q r λh=>Z;rw[show fA T [] false=T from lR]at e;have w:=e.rv (Rv.nil (U:=U) (sz:=sz));rw[<-s rfl,ij];exact w|cons y ys =>have k:=bj.Ql (P:=P) (U:=U) (B:=B) (S:=S) (sz:=sz) (MO:=MO) (x:=f y) (GL:=List.map f ys) h1 g (λrow c=>Z) Z;intro n o c;let⟨u,m,p⟩:=k n o c;refine⟨u,m,λT q r s=>?_⟩;have e:=(p T q r s).rv (Rv.acj (U:=U));simpa using e
theorem I.pZ{a:QO}(e:bJ Y.tm gg=some true)(h1:a.ev Y.tm=.sl true [])(c:b.ev Y.tm=aQ O f ex' ys)(j:∀x,(f x).length=sz)(k:ys.length*MO<=35184372088832)(kk:∀d g,d=ys->g=d.length->I P U rd n Q (.bp false l K) (bX dd Y (.gr S.nx sz g)) (S.new (.arr sz (O.h (List.map f) d) 0 false))):I P U rd n Q (.bp false (⟨dd,gg,.append sz MO a b⟩::l) K) Y S:=by rw[bN]at c;have h:=kk _ _ rfl rfl;rw[O.eq]at h;cases ys with|nil=>exact I.op (i:=⟨dd,gg,.append sz MO a b⟩) e ((D.MB h1 (by rw[c];exact jt)).rv Rv.nil) h|cons y ys =>refine I.op (i:=⟨dd,gg,.append sz MO a b⟩) e ((D.Ql (rows:=[]) (x:=f y) (GL:=List.map f ys) h1 (by rw[c];exact jt) (λ_ h=>Z) (λrow o=>Z) Z).rv Rv.acj) ?_;simpa using h
end
def I.aj3{gd:Option (Nat×Bool)}{f:QO}{g:FuncId}{args Q6:List AV}{r₀:AV}{so':List (Nat×Ob)}{ob:Ob}(a:bJ Y.tm gd=some true)(b:aG P U g args (aw [] 0) r (aw so' 1))(h:fO (f.ev Y.tm) (j8.map (·.ev Y.tm))=some (g,Q6))(c:Ad (aU []) 0 Q6 args)(e:Rb (dL (aU []) 0 S.nx) r r₀)(j:fW (dL (aU []) 0 S.nx) so' [(S.nx,some ob)])(k:Ch so'=true)(kk:I P U rd n Q (.kM B V (lg++[([],[S.nx],true)]) rs l K) (bX d Y r₀) (fA S [(S.nx,some ob)] true)):I P U rd n Q (.kM B V lg rs (⟨d,gd,.call f j8⟩::l) K) Y S :=I.eV (i:=⟨d,gd,.call f j8⟩) a (bj.apn b h c e j k) kk
theorem D.Cj{len m:Nat}{k:LK}{l:List AV}{c:IntKind}{j:Int}{dr:Bool}(h1:x.ev Y.tm=.agg l)(h2:i.ev Y.tm=.v (.int c j))(h3:xF k l (j.toNat*m)=some a)(h4:0<=j)(h5:j<len):D P U dr (.Cj len m k x i) Y S a S:=by refine D.of rfl λo b=>?_;cases o<;>simp only[res,cU,gR]at b<;>(repeat' split at b)<;>(try cases b);rw[aY]at h1 h2;rename_i e d;rw[<-Gc d]at h3;simp only[b8, *];exact bR.mk rfl ⟨trivial,trivial,rfl,rfl⟩
theorem US{o:Op}(h:res P.toTables o=some (.len false x)):∃c t u e,o=.call c/\c.callee=.builtin .len/\c.argTypes=#[t]/\c.args=#[u]/\x=qo u/\P.underlying t=some (.slice e):=by cases o<;>simp only[res,cU]at h<;>(repeat' split at h)<;>(try cases h);rename_i c a t y b d e f;exact⟨_,_,_,_,rfl,Z,toList_one (by assumption),toList_one Z,rfl,by assumption⟩
theorem Qr{o:Oper}{k len:Nat}(m:res P.toTables o.op=some (.len false x))(β:AA)(h:x.ev β.tm=.gr k sz len):jZ P U n o β S (.v (.int .i64 len)) S:=by obtain⟨c,t,u,e,b,d,f,i,rfl,j⟩:=US m;rw[aY]at h;refine bt.ops (bt.quiet λA g q w s p=>?_) λr e=>Z;have l:=p.ev u;rw[h]at l;refine⟨_,?_,.v⟩;rcases tr l with⟨rfl,v,a⟩|⟨_,r,a,_,_⟩;simp[execOp,b,resolve,d,i,f,a,invoke,builtin,Builtin.len_,run_underlying j,goInt];simp[execOp,b,resolve,d,i,f,a,invoke,builtin,Builtin.len_,run_underlying j,goInt]
theorem D.kS{dr:Bool}{k len:Nat}(h:x.ev Y.tm=.gr k sz len):D P U dr (.len false x) Y S (.v (.int .i64 len)) S:=by cases dr with|false=>exactλn o a=>Qr a Y h|true =>
  intro n o a;let⟨c,t,u,e,d,j,l,f,g,m⟩:=US a;have i:x.ev (Y.only (d_ o)).tm=.gr k sz len:=by rw[<-h,g,aY,aY];exact h_ λt e=>ic (by rw[d,<-e];show u∈c.operands;simp[Call.operands,f])
  have b:∀T,jZ P U n o (Y.only (d_ o)) T (.v (.int .i64 len)) T:=λT=>Qr a _ i;exact⟨b S,λ_=>⟨rfl,b⟩,λ_=>rfl⟩
def I.auJ{σ:Type}{N:Nat}{ds:List DE}{st:σ->List (Nat×AV)}{so:σ->List (Nat×Ob)}{a:σ->Prop}{b:List PanicEntry}(h:I P U rd n Q (.out (.panic b) K) Y S):I P U rd n (WD P U rd n B N st ds so a Q K) (.out (.panic b) []) Y S:=h
end
section
variable{T:ao}{f:FuncId}{args:List AV}
def Rn.bm(h:eI N a):Rn id N a a:=λg w x b=>aT.bm (B:=N) (g:=g) (g':=g.pre id N) (λk c d=>⟨c,d⟩) (λ_ _=>rfl) (λ_ _=>rfl) (λ_ _ h=>h) b h
theorem fM.bm{g g':Gh}{w:World}{B b C:Nat}{o:Ob}(S:∀k,k<B->g.al k->g'.al k)(T:∀k,k<B->g.al k->g'.ob k=g.ob k)(V:∀k,k<B->g.al k->g'.cp k=g.cp k)(E:g'.fz=g.fz)(p:jm B o)(F:∀J,o≠.fo J)(q:∀{a:AV}{x:Value},eI B a->aT g w a x->aT g' w a x)(h:fM g w b C o):fM g' w b C o:=by cases o with|arr sz rows fz ex =>let⟨G,K,d,f,l,n,r,u,v⟩:=h;refine⟨G,K,d,f,l,n,λi row y=>⟨(r i row y).1,λj a c=>?_⟩,u,by rw[E];exact v⟩;let⟨x,M,N⟩:=(r i row y).2 j a c;exact⟨x,M,q (p _ (as_ y) _ (as_ c)) N⟩|mp P =>let⟨entries,clock,d,f,l⟩:=h;refine⟨entries,clock,d,f,λi k a c=>?_⟩;let⟨e,z,A,m⟩:=l i k a c;exact⟨e,z,A,q (p _ (as_ c)) m⟩|mb P =>let⟨entries,d,f,l,n⟩:=h;refine⟨entries,d,f,λi k a c=>?_,n⟩;let⟨e,z,A,m⟩:=l i k a c;exact⟨e,z,A,q (p _ (as_ c)) m⟩|lp st W tm ps assign body =>let⟨L,d,f,l,n,r,u,v,Q⟩:=h;exact⟨L,d,f,l,n,r,u,λt R=>q (p t) (v t R),Q⟩|df=>exact h|si s pos=>exact h|fo J=>exact absurd rfl (F J)|un=>exact h.elim
theorem lO.bm{o:Ob}(a:jm N o)(c:∀J,o≠.fo J):lO id N o o:=by refine⟨λg w b e h=>?_,λJ h=>h⟩;exact fM.bm (B:=N) (g:=g) (g':=g.pre id N) (λk a d=>⟨a,d⟩) (λ_ _ _=>rfl) (λ_ _ _=>rfl) rfl a c (λa h=>Rn.bm a g w _ h) h
theorem aT.back{gc g:Gh}{w:World}{o:Nat->Nat}(t:∀k,k<N->o k=k)(s:Bk o gc g):∀{a:AV}{x:Value},eI N a->aT gc w a x->aT g w a x:=by
 have n:∀k,k<N->gc.al k->g.al k:=λk b p=>by have:=s.al k p;rwa[t k b]at this
 have q:∀k,k<N->gc.al k->g.ob k=gc.ob k:=λk b p=>by have:=s.ob k p;rwa[t k b]at this
 have Q:∀k,k<N->gc.al k->g.cp k=gc.cp k:=λk b p=>by have:=s.cp k p;rwa[t k b]at this
 have R:=s.fz;intro a x c h;induction h with
 |u=>exact .u|v=>exact .v|agg y h m=>cases c with|agg c=>exact .agg y λi a x d l=>m i a x d l (c _ (as_ d))
 |aM y h m=>cases c with|aM c=>exact .aM y λi a x d l=>m i a x d l (c _ (as_ d))
 |nil z=>exact .nil z|sl B C f E h F m =>cases c with|sl c=>exact .sl B C f E (λi j row a d l=>⟨Z,(h i j row a d l).2⟩) λi j row a d l=>m i j row a d l (c _ (as_ d) _ (as_ l))
 |ip h F m =>cases c with|ip c=>exact .ip (λi a d=>⟨Z,(h i a d).2⟩) λi a d=>m i a d (c _ (as_ d))
 |ob b z G J f =>cases c with|ob e =>rw[<-q _ e b];exact .ob (n _ e b) z Z Z f
 |pt b =>cases c with|pt e=>rw[<-q _ e b];exact .pt (n _ e b)
 |mp b =>cases c with|mp e=>rw[<-q _ e b];exact .mp (n _ e b)
 |yl b =>cases c with|yl e=>rw[<-q _ e b];exact .yl (n _ e b)
 |lM=>exact .lM|gr b J f =>cases c with|gr e=>rw[<-q _ e b];exact .gr (n _ e b) Z f
 |fn d l S T K L =>cases c with|fn M P=>exact .fn d l (λi a x r A=>K i a x r A (M _ (as_ r))) λi a x r A=>L i a x r A (P _ (as_ r))
structure Gd(so:List (Nat×Ob))(N:Nat)(T:ao):Prop where
 le:N<=T.nx
 get:∀j o,fN so j=some o->j<N/\T.get j=some o/\jm N o/\∀J,o≠.fo J
 all:∀j,j<N->∃o,fN so j=some o
theorem aG.same(h:aG P U f args (aw so N) r (aw so N))(y:Gd so N T)(q:∀a∈args,eI N a)(hr:eI N r):aG P U f args T r T:=by
 let⟨l,S⟩:∃l:ao,l=⟨λk=>if k<T.nx then T.get k else none,T.nx⟩:=⟨_,rfl⟩;have get':∀k o,l.get k=some o->k<T.nx/\T.get k=some o:=λk o c=>by rw[S]at c;have c:(if k<T.nx then T.get k else none)=some o:=c;split at c;grind;grind
 have I8:l.nx=T.nx:=Z;have V:∀k o,k<T.nx->T.get k=some o->l.get k=some o:=λk o c h=>by rw[S];show(if k<T.nx then T.get k else none)=some o;rw[if_pos c];exact h
 have z:=y.le;have G:∀k,k<N->dL id N l.nx k=k:=λk c=>sw c;have hf:Fits id (aw so N) (aw so N) l l:=by refine⟨λi j _ _ e=>e,λj d=>by rw[I8];exact aG_ d z,λj o d=>?_,λk o c=>?_,.inr ⟨aj_ _,rfl⟩,.inr λj J d=>?_⟩;let⟨s,n,K,L⟩:=y.get j o d;exact⟨o,V j o (aG_ s z) n,lO.bm K L⟩;let⟨s,n⟩:=get' k o c;by_cases M:k<N;let⟨Q,C⟩:=y.all k M;let⟨q1,q2,q3,q4⟩:=y.get k Q C;obtain rfl:Q=o:=Z;refine .inl ⟨k,Q,G k M,C,λgc g w b cp t _ R=>?_,λJ e=>e⟩;have E:∀k,k<N->dL id (aw so N).nx l.nx k=k:=G;exact fM.bm (B:=N) (λk c q=>by have:=t.al k q;rwa[E k c]at this) (λk c q=>by have:=t.ob k q;rwa[E k c]at this) (λk c q=>by have:=t.cp k q;rwa[E k c]at this) t.fz q3 q4 (λc h=>aT.back E t c h) R;exact .inr ⟨Z,λj d e=>M (by rw[<-e];exact d),c⟩;let⟨_,_,_,L⟩:=y.get j _ d;exact absurd rfl (L J)
 have W:=h.frame hf rfl (λi a b s n=>by rw[s]at n;cases oJ_ n;exact Rn.bm (q _ (as_ s))) λgc g w x t R=>aT.back (N:=N) (o:=dL id (aw so N).nx l.nx) G t hr R;refine⟨W.1,λF m A g u w hF hS hA=>(W.2 F m A g u w hF (hS.forget Z λj p d _=>(get' j p d).2) hA).mono ?_⟩;rintro e w'⟨v,g',rfl,s,n,K⟩;refine⟨v,g',rfl,s,n.forget Z λj p d aV=>?_,K⟩;have:=n.al j aV;exact V j p Z d
def D.Io{f:QO}{g:FuncId}{args:List AV}(b:aG P U g args (aw so N) r (aw so N))(h:fO (f.ev Y.tm) (j8.map (·.ev Y.tm))=some (g,args))(c:Gd so N T)(d:∀a∈args,eI N a)(e:eI N r):D P U dr (.call f j8) Y T r T :=D.call h (b.same c d e) λ_=>rfl
end
theorem D.K1{k:Nat}{es:List (Value×AV)}{m:Int}(h:x.ev Y.tm=.mp k)(j:S.get k=some (.mp es))(l:qM es)(hi:i.ev Y.tm=.v (.int .i64 m))(p:b.ev Y.tm=a):D P U true (.pj x i b) Y S (.v undef) (S.set k (some (.mp (DY es m a)))):=by intro n o q;obtain⟨t,u,v,y,B,C,E,d,rfl,rfl,rfl,r,s⟩:=JW q;rw[aY]at h hi p;have e:∀z∈[u,v,y],(Y.only (d_ o)).ev z=Y.ev z:=λz w=>h_ λt A=>ic (by rw[d];simp[Op.operands,<-A];simpa using w);exact⟨(Qt d r s Z j l (by rw[e v aE];exact hi) Z).ops λc e=>Z,λf=>(by rw[d]at f;cases f),λg=>by rw[d]at g;cases g⟩
theorem I.K1{rd:Bool}{n:Nat}{Q:Exit->AA->ao->Prop}{l:List QI}{K:List iu}{O:Hd}{f:T->AV}{kv:List (Int×T)}{g:Option (Nat×Bool)}{k:Nat}{m:Int}{v:T}(c:bJ Y.tm g=some true)(e:x.ev Y.tm=.mp k)(j:S.get k=some (.mp (O.h (ec f) kv)))(hi:i.ev Y.tm=.v (.int .i64 m))(o:b.ev Y.tm=f v)(p:∀a,a=iA kv m v->I P U rd n Q (.bp true l K) (bX d Y (.v undef)) (S.set k (some (.mp (O.h (ec f) a))))):I P U rd n Q (.bp true (⟨d,g,.pj x i b⟩::l) K) Y S:=by have h:=D.K1 (P:=P) (U:=U) e j (by rw[O.eq];exact uF) hi o;rw[O.eq,JX,<-O.eq (ec f)]at h;exact I.op (i:=⟨d,g,.pj x i b⟩) c h (p _ rfl)
end Go.Proofs.YtbdcmpknicjopaaGreat
