import Derived.Test.YtbdcmpknicjopaaGreatTo28
namespace Go.Proofs.YtbdcmpknicjopaaGreat
set_option linter.all false
set_option maxRecDepth 100000
open Go.RowKit Proofs.Tryz
variable{B N' i n:Nat}{O:Hd}{P:Program}{Q6:List AV}{S S' T:ao}{U:World}{Y:AA}{a b:Int}{dr ex:Bool}{e env:List Bd}{f:FuncId}{j8:List QO}{l:List Tm}{m:List (Nat×Nat)}{r₀:AV}{so so':List (Nat×Ob)}{to:List (Nat×Option Ob)}{x:QO}{ι:Nat->Nat}
variable{rows:List (List AV)}{r:List Tm}
section
attribute [local irreducible] aq aG D I
def aqZ:=aD func275 call275
def Xi:=[3,4,8,0,1,9,6,18,5,20]
def aq0:=aD func211 call211
def yG:=[6,1,5,4,10,0]
def aq1:=aD func148 call148
def amb:=[3,4,1,0]
theorem Ot(b:List Bd)(v:Int):(gG b v).2=(mM b v).isSome/\∀u,mM b v=some u->(gG b v).1=u:=by grind[gG,mM]
theorem Ou{f:Tm->Tm}(a:List Tm)(z:a.length<=100000000000)(o:∀x∈a,ad U 275 [a_ O env,tm O x] (tm O (f x))):ad U 211 [a_ O env,tl O a] (tl O (a.map f)):=by
 let⟨R,g⟩:=au (a.map f);rw[<-g];refine st aq0 yG (cQ _) ?_;refine cW (τ:=List Tm×Nat) 0 1 [] (λp=>[(0,a_ O env),(1,tl O a),(5,.gr 0 4 p.2.2),(6,.v (.int .i64 p.1))]) [] (λp=>[(0,.arr 4 (O.h (List.map (jG O)) p.2.1) 0 false)]) a.length (λk p=>R=p.2.1++(a.drop k).map f/\p.2.2=p.2.1.length/\p.2.1.length=k) ([],0) ⟨Z,rfl,rfl⟩ ?_;rintro i k⟨B,len⟩h C⟨b,c,q⟩;simp only at h b c q;clear g;refine H yG ?_;by_cases r:k<a.length
 ·let⟨x,j,s⟩:=aC r;have n:=o x (aZ j);rw[s,aK_]at b;let⟨d,t⟩:=au (f x);rw[<-t]at n b;repeat' first|refine og yG (D.ind rfl rfl (cG (l:=a) h j) cH) ?_|apply bh yG n|refine I.app (x:=d) (f:=jG O) rfl rfl rfl c (λ_=>rfl) rfl rfl rfl rfl X λu v E F=>?_;refine H yG ?_|refine cg yG (λe=>?_) λe=>?_|refine lg yG λm w=>?_|refine ag yG λ_ _=>?_|refine xG yG ?_|refine fq ?_
  all_goals first|omega|refine I.bu (_,u,v) [(0,1)] ?_ ?_ (by exact⟨sq,rfl,⟨.inl ⟨_,rfl,.same (jP λx _ a y=>ur x a y)⟩,trivial⟩,rfl,rfl,rfl⟩);grind;simp only;omega
 ·skip;repeat' first|refine cg yG (λe=>?_) λe=>?_|refine lg yG λm w=>?_|refine xG yG ?_|refine fq ?_
  all_goals first|omega|rw[b,ar_ X,aY_,aI_,<-M3];exact aL.grow rfl c
theorem adE(q:env.length<=1099511627776)(n:Nat):∀x:Tm,cL x<=n->n<=100000000000->ad U 275 [a_ O env,tm O x] (tm O (fT env x)):=by induction n with|zero=>intro x h;have:=ff x;omega|succ n o =>
  intro x p r;rw[ff]at p;have s:=oK x.a;have j:=Ou (U:=U) (O:=O) (f:=fT env) (env:=env) x.a X λy t=>o y (by have:=jx y t;omega) X;have e:=Qq (U:=U) (O:=O) env x.i q;let⟨d,l⟩:=Ot env x.i;let⟨R,c⟩:=au (fT env x);rw[<-c];let⟨k,i,m,a⟩:=x;rw[fT,rq]at c;simp only at j e d l c;clear o p r s;let⟨A,v⟩:=au (a.map (fT env));rw[<-v]at j c;let⟨⟨⟨B,C,un,E⟩,b⟩,w⟩:∃L,L=gG env i:=⟨_,rfl⟩;rw[<-w]at e d l;simp only at e d l;refine st aqZ Xi (bM _) ?_;repeat' first|apply bh Xi j|refine I.op rfl (pl e) ?_;cases b<;>refine H Xi ?_|refine cg Xi (λz=>?_) λz=>?_|refine fq ?_
  all_goals clear j e
  all_goals first
   |(have h:R=⟨k,i,m,A⟩:=by rw[c,if_neg X,if_pos X]
     rw[h];exact .refl _)
   |(have h:R=⟨k,i,m,a⟩:=by rw[c,if_neg X,if_neg X]
     rw[h];exact .refl _)|cases g:mM env i with
     |none =>
      have h:R=⟨k,i,m,a⟩:=by rw[c,if_pos X,g]
      first|rw[h];exact .refl _|rw[g]at d;cases d
     |some u =>
      have h:R=u:=by rw[c,if_pos X,g]
      first|rw[h,<-l u g];exact .refl _|rw[g]at d;cases d
def aii(a:env.length<=1099511627776)(x:Tm)(b:cL x<=100000000000):ad U 275 [a_ O env,tm O x] (tm O (fT env x)):=adE a _ x (aj_ _) b
theorem Sx(c:env.length<=1099511627776)(g:Gl)(e:bC g.a<=100000000000):ad U 148 [a_ O env,gl O g] (gl O (gM env g)):=by
 have b:=Ou (U:=U) (O:=O) (f:=fT env) (env:=env) g.a (by grind[oK]) λy h=>aii c y (by have:=jx y h;omega);rw[gM];let⟨o,n,a⟩:=g;simp only at b⊢;let⟨A,d⟩:=au (a.map (fT env));rw[<-d]at b⊢;clear d e c;refine st aq1 amb (kJ _) ?_;repeat' first|apply bh amb b|refine fq ?_
 exact .refl _
end
section
variable{N:ao}{r:AV}
theorem aG.G0{f:FuncId}{args args':List AV}{b:ao}(l:∀k o,N.get k=some o->S.get k=some o)(c:S.nx<=S'.nx)(y:∀k o,S'.get k=some o->S.get k=some o/\N.get k=none)(d:jl N args args')(h:aG P U f args' S' r b):aG P U f args S r b:=by
 refine⟨h.1,λF m A g n w z q s=>?_⟩;let⟨B,C⟩:=q.G0 l c y;have E:nI (g.still N) w args' n:=by
  refine⟨s.1.trans d.len,λi a x t c=>?_⟩;have G:i<args.length:=by rw[d.len];exact(aC_.1 t).1
  have u:=ax_ G;have J:St U A g ⟨N.get,S.nx⟩ w:=q.forget (aj_ _) λj p K _=>l j p K;have L:=d.at i _ a u t;exact(L.mono (S:=N) (T:=⟨N.get,S.nx⟩) λ_ _ _ _ _ h=>h).rep J (s.2 i _ x u c)
 refine(h.2 F m A (g.still N) n w z C E).mono ?_;rintro e V⟨v,M,rfl,Q,R,k3⟩;exact⟨v,M,rfl,Q,R,B.trans k3⟩
end
theorem fl1(c:0<b)(d:0<=a):a.tdiv b=a.fdiv b:=Z
theorem fl2(e:0<b)(i:a<0):-(b-1-a).tdiv b=a.fdiv b:=by rw[Int.tdiv_eq_ediv_of_nonneg X,Int.fdiv_eq_ediv_of_nonneg _ X];have f:=Int.mul_ediv_add_emod a b;have g:=Int.emod_nonneg a (by omega:b≠0);have h:=Int.emod_lt_of_pos a e;let⟨q,c⟩:=au (a/b);let⟨r,d⟩:=au (a%b);rw[<-c,<-d]at f;rw[<-d]at g h;rw[<-c];have:b-1-a=b-1-r+b*-q:=Z;rw[this,Int.add_mul_ediv_left _ _ X,Int.ediv_eq_zero_of_lt X X];omega
theorem age(c:b≠0):a.fdiv b=if a.tmod b≠0/\decide (a<0)≠decide (b<0) then a.tdiv b-1 else a.tdiv b:=by rw[Int.fdiv_eq_tdiv];by_cases h:b ∣ a;rw[if_pos h,if_neg λk=>k.1 (Int.tmod_eq_zero_of_dvd h)];omega;have d:a.tmod b≠0:=λk=>h (Int.dvd_of_tmod_eq_zero k);rw[if_neg h];have f:a≠0:=λe=>h (by rw[e];exact Int.dvd_zero b);by_cases g:a<0;grind;grind
theorem aar(h1:-2147483650<=a)(h2:a<=2147483650)(h3:-2147483650<=b)(h4:b<=2147483650):-4611686027017322500<=a*b/\a*b<=4611686027017322500:=by have h:=Int.natAbs_mul a b;have:a.natAbs*b.natAbs<=2147483650*2147483650:=Nat.mul_le_mul X X;omega
theorem w9{n:Int}:iQ n=true↔-2147483648<=n/\n<=2147483648:=by grind[iQ]
theorem D.aq2(h1:x.ev Y.tm=.v (.int .i64 a))(b:-9223372036854775807<=a)(c:a<=9223372036854775807):D P U dr (.neg x) Y S (.v (.int .i64 (0-a))) S:=by have:=D.neg (P:=P) (U:=U) (S:=S) (dr:=dr) h1;rw[Pj X X]at this;exact this
theorem D.aq3{isB:BK}{y:QO}(h1:x.ev Y.tm=.v (.int .i64 a))(h2:y.ev Y.tm=.v (.int .i64 b))(c:b≠0)(d:-9223372036854775808<=a.tdiv b)(e:a.tdiv b<=9223372036854775807):D P U false (.bin .quo isB x y) Y S (.v (.int .i64 (a.tdiv b))) S:=by have:=D.quo (P:=P) (U:=U) (S:=S) (isB:=isB) h1 h2 c;rw[Pj X X]at this;exact this
theorem D.amc{isB:BK}{y:QO}(h1:x.ev Y.tm=.v (.int .i64 a))(h2:y.ev Y.tm=.v (.int .i64 b))(c:b≠0)(d:-4294967300<=a)(e:a<=4294967300):D P U false (.bin .quo isB x y) Y S (.v (.int .i64 (a.tdiv b))) S:=by have h:=dC_ a b;exact D.aq3 h1 h2 c X X
def D.avO{isB:BK}{y:QO}(h1:x.ev Y.tm=.v (.int .i64 a))(h2:y.ev Y.tm=.v (.int .i64 b))(c:b≠0):D P U false (.bin .rem isB x y) Y S (.v (.int .i64 (a.tmod b))) S:=D.rem h1 h2 c
theorem D.adF{isB:BK}{y:QO}(h1:x.ev Y.tm=.v (.int .i64 a))(h2:y.ev Y.tm=.v (.int .i64 b))(d:-2147483650<=a)(e:a<=2147483650)(f:-2147483650<=b)(c:b<=2147483650):D P U dr (.bin .mul isB x y) Y S (.v (.int .i64 (a*b))) S:=by have h:=aar d e f c;exact D.y7 h1 h2 rfl X X
theorem aij(h1:-2147483648<=a)(h2:a<=2147483648):-2147483648<=a.tdiv b/\a.tdiv b<=2147483648:=by have h:=dC_ a b;omega
theorem qbd{q:Int}(c:q=a.tdiv b)(d:-4294967300<=a)(e:a<=4294967300):-4294967300<=q/\q<=4294967300:=by have h:=dC_ a b;omega
theorem mbd{q:Int}(c:q=a*b)(h1:-2147483650<=a)(h2:a<=2147483650)(h3:-2147483650<=b)(h4:b<=2147483650):-4611686027017322500<=q/\q<=4611686027017322500:=by rw[c];exact aar h1 h2 h3 h4
theorem Ov(b:UInt8):(⟨⟨[b]⟩⟩:ByteArray).toList=[b]:=by unfold ByteArray.toList;unfold ByteArray.toList.loop;unfold ByteArray.toList.loop;simp[ByteArray.size,ByteArray.get!]
theorem ame(n:ByteArray)(a b:Int):Og n a b=if n.toList=(⟨⟨[43]⟩⟩:ByteArray).toList then(a+b,0) else if n.toList=(⟨⟨[45]⟩⟩:ByteArray).toList then(a-b,0) else if n.toList=(⟨⟨[42]⟩⟩:ByteArray).toList then(a*b,0) else if b=0 then(0,12) else if n.toList=(⟨⟨[47]⟩⟩:ByteArray).toList then(a.fdiv b,0) else(a-a.fdiv b*b,0):=by unfold Og;simp only[Ov]
theorem VI(c:b≠0)(h1:-2147483648<=a)(h2:a<=2147483648):-2147483649<=a.fdiv b/\a.fdiv b<=2147483648:=by have h:=aij (b:=b) h1 h2;rw[age c];split<;>omega
section
attribute [local irreducible] aq aG D I
def aq4:=aD func310 call310
def amf:=[0,2]
def aq5:=aD func311 call311
def amg:=[0,2]
def aq6:=aD func329 call329
def Sy:=[1,0,4,6,12]
def agf:=aD func312 call312
def vY:=[2,1,0,20,8,6,7,11,19,33,38,43,22,27,50]
def agh:=aD func277 call277
def vZ:=[1,9,5,7,2,3,0,10,15,18,34,44,55,4,6]
def mR(p:Int×Int):AV:=.aM [iv p.1,iv p.2]
def kR(p:Int×Int):Pure (mR p):=.aM (s_ .v .v)
theorem jR{p:Int×Int}(h:p=(a,b)):aL S (.aM [.v (.int .i64 a),.v (.int .i64 b)]) (mR p):=by subst h;exact .refl _
theorem Pk(x:Int):ad U 310 [iv x] (.v (.bool (iQ x))):=by
 refine st aq4 amf .v ?_;repeat' first|refine cg amf (λa=>?_) λa=>?_|refine fq ?_
 all_goals refine aO ?_;unfold iQ;simp_all;try omega
theorem agi(s:ByteArray):ad U 311 [.v (.string s)] (.v (.bool (eZ s))):=by
 refine st aq5 amg .v ?_;repeat' first|refine cg amg (λa=>?_) λa=>?_|refine fq ?_
 all_goals refine aL.of_eq ?_;simp_all[eZ]
theorem aik(a b:Int)(g:b≠0)(h1:-2147483648<=a)(h2:a<=2147483648)(h3:-2147483648<=b)(h4:b<=2147483648):ad U 329 [iv a,iv b] (iv (a.fdiv b)):=by
 let⟨R,d⟩:=au (a.fdiv b);rw[<-d];have c:(0-a).fdiv (0-b)=a.fdiv b:=by rw[dj_,dj_];exact Int.neg_fdiv_neg a b
 refine st aq6 Sy .v ?_;repeat' first|refine I.int rfl (D.amc rfl rfl X X X) λq e=>?_;have h:=qbd e X X;refine H Sy ?_|refine ig Sy (D.aq2 rfl X X) λ_ _=>?_|refine cg Sy (λf=>?_) λf=>?_|refine ag Sy λ_ _=>?_|refine fq ?_
 all_goals first|subst_vars;refine dA ?_;rw[<-c];exact fl1 X X|subst_vars;refine dA ?_;exact fl1 X X|subst_vars;refine dA ?_;rw[<-c,dj_ (Int.tdiv _ _)];exact fl2 X X|subst_vars;refine dA ?_;rw[dj_ (Int.tdiv _ _)];exact fl2 X X
theorem adG(n:ByteArray)(a b:Int)(r:eZ n=true):ad U 312 [.v (.string n),iv a,iv b] (mR (Oh n a b)):=by
 have e:=agi (U:=U) n;rw[r]at e;have f:=Pk (U:=U) a;have g:=Pk (U:=U) b;have j:=w9 (n:=a);have k:=w9 (n:=b);let⟨A,l⟩:=au (iQ a);let⟨B,m⟩:=au (iQ b);rw[<-l]at f j;rw[<-m]at g k;have s:∀x,ad U 310 [iv x] (.v (.bool (iQ x))):=λx=>Pk x;let⟨R,c⟩:=au (Oh n a b);rw[<-c];unfold Oh at c;rw[<-l,<-m]at c;clear l m;by_cases w:A=true/\B=true;rotate_left
 ·rw[if_pos Z]at c;refine st agf vY (kR _) ?_;repeat' first|refine bg vY (pl e) (λ_=>?_) λ_=>?_|refine bg vY (pl f) (λ_=>?_) λ_=>?_|refine bg vY (pl g) (λ_=>?_) λ_=>?_|refine cg vY (λo=>?_) λo=>?_|refine fq ?_
  all_goals first|exact jR c|exfalso;simp_all
 obtain⟨rfl,rfl⟩:=w;let⟨t,u⟩:=j.1 rfl;let⟨y,z⟩:=k.1 rfl;clear j k;rw[if_neg aJ]at c;let⟨F,i⟩:=au (a.fdiv b);have v:b≠0->ad U 329 [iv a,iv b] (iv F):=λh=>by rw[i];exact aik a b h t u y z
 have p:b≠0->-2147483649<=F/\F<=2147483648:=λh=>by rw[i];exact VI h t u
 let⟨P,d⟩:=au (Og n a b);rw[<-d]at c;rw[ame,<-i]at d;clear i;have E:n.toList=[43]\/n.toList=[45]\/n.toList=[42]\/n.toList=[47]\/n.toList=[37]:=by grind[eZ,Ov]
 clear r;simp only[Ov]at d;have fin:∀x,P=(x,0)->∀{S:ao},(iQ x=true->aL S (.aM [.v (.int .i64 x),.v (.int .i64 0)]) (mR R))/\(iQ x=false->aL S (.aM [.v (.int .i64 0),.v (.int .i64 5)]) (mR R)):=λx G S=>by grind[jR]
 refine st agf vY (kR _) ?_;repeat' first|refine bg vY (pl e) (λ_=>?_) λ_=>?_|refine bg vY (pl f) (λ_=>?_) λ_=>?_|refine bg vY (pl g) (λ_=>?_) λ_=>?_|refine I.int rfl (D.adF rfl rfl X X X X) λq C=>?_;have J:=mbd C X X X X;refine H vY ?_|apply bh vY (v Z)|refine bg vY (pl (s _)) (λ_=>?_) λ_=>?_|refine cg vY (λo=>?_) λo=>?_|refine ag vY λ_ _=>?_|refine fq ?_
 all_goals clear e f g s v p
 all_goals try simp only[Ov]at*
 all_goals first|refine(fin _ ?_).1 Z;clear fin c;rw[d];simp_all;done|refine(fin _ ?_).2 Z;clear fin c;rw[d];simp_all;done|refine jR ?_;clear fin;rw[c,d];simp_all;done
theorem ail(n:Nat):∀x:Tm,cL x<=n->ad U 277 [tm O x] (mR (pD x)):=by induction n with|zero=>intro x h;have:=ff x;omega|succ m r =>
  intro x d;rw[ff]at d;let⟨R,b⟩:=au (pD x);rw[<-b];let⟨k,i,n,a⟩:=x;rw[pD]at b;simp only at d;have s:=Pk (U:=U) i;have g:=agi (U:=U) n;let⟨E,A⟩:=au (iQ i);let⟨z,t⟩:=au (eZ n);rw[<-A]at s b;rw[<-t]at g b;by_cases B:k=2/\a.length=2/\z=true;rotate_left
  ·clear r d t;refine st agh vZ (kR _) ?_;repeat' first|refine bg vZ (pl s) (λ_=>?_) λ_=>?_|refine bg vZ (pl g) (λ_=>?_) λ_=>?_|refine cg vZ (λw=>?_) λw=>?_|refine lg vZ λm F=>?_|refine fq ?_
   all_goals clear s g
   all_goals first|refine jR ?_;rw[b];simp_all;done|exfalso;apply B;refine⟨X,X,Z⟩
  obtain⟨rfl,C,rfl⟩:=B;rw[if_neg X,if_neg X,if_pos ⟨rfl,C,rfl⟩]at b;match a,C with
  |[x,y],_ =>
  simp only[bC]at d;have j:=r x X;have o:=r y X;have c:=λp q=>adG (U:=U) n p q t.symm;clear r d t A;simp only[ac4]at b;let⟨⟨p,e⟩,G⟩:∃P,P=pD x:=⟨_,rfl⟩;let⟨⟨q,f⟩,J⟩:∃Q,Q=pD y:=⟨_,rfl⟩;rw[<-G]at j b;rw[<-J]at o b;simp only at b;have c:=c p q;let⟨⟨u,v⟩,K⟩:∃V,V=Oh n p q:=⟨_,rfl⟩;rw[<-K]at c b;rw[mR]at j o c;simp only at j o c;refine st agh vZ (kR _) ?_;repeat' first|refine bg vZ (pl g) (λ_=>?_) λ_=>?_|refine og vZ (D.ind rfl rfl (cG (l:=[x,y]) (k:=0) rfl rfl) cH) ?_|refine og vZ (D.ind rfl rfl (cG (l:=[x,y]) (k:=1) rfl rfl) cH) ?_|apply bh vZ j|apply bh vZ o|apply bh vZ c|exact dV w|refine cg vZ (λw=>?_) λw=>?_|refine lg vZ λm F=>?_|refine fq ?_
  all_goals clear s g j o c
  all_goals first|exfalso;simp_all;done|refine jR ?_;rw[b];simp_all;done
def aas(x:Tm):ad U 277 [tm O x] (mR (pD x)):=ail _ x (aj_ _)
def aq7:=aD func313 call313
def kV:=[0,1,6,7,4,5,11,19,23,31,36]
def aq8:=aD func278 call278
def amh:=[4,5,0,1,2,3]
def aq9:=aD func216 call216
def adH:=[6,4,0,1,2,3]
theorem M8{cc c:Int}(h:ex=true/\rows=[]/\cc=c):aL S (.aM [.sl true [],iv c]) (.aM [.sl ex rows,iv cc]):=by obtain⟨rfl,rfl,rfl⟩:=h;exact .refl _
theorem LO{cc:Int}(t:Pure (.aM [.sl ex rows,iv cc]))(J:l.length<=100000000)(K:r.length<=100000000)(o:∀x∈l,x.ok/\dD x<=1099511627776)(q:∀x∈r,x.ok/\dD x<=1099511627776)(h1:(l.any λx=>! cB x)=true->ex=true/\rows=[]/\cc=2)(h2:(l.any λx=>! cB x)=false->(r.any λx=>! cB x)=true->ex=true/\rows=[]/\cc=2)(h3:(l.any λx=>! cB x)=false->(r.any λx=>! cB x)=false->l.length≠r.length->ex=true/\rows=[]/\cc=9)(h4:(l.any λx=>! cB x)=false->(r.any λx=>! cB x)=false->l.length=r.length->ad U 330 [tl O l,tl O r] (.aM [.sl ex rows,iv cc])):ad U 313 [tl O l,tl O r] (.aM [.sl ex rows,iv cc]):=by
 let⟨u,d⟩:=au (l.any λx=>! cB x);let⟨v,e⟩:=au (r.any λx=>! cB x);rw[<-d]at h1 h2 h3 h4;rw[<-e]at h2 h3 h4;refine st aq7 kV t ?_;refine bL 0 0 [] (λp=>[(0,tl O l),(1,tl O r),(6,.v (.int .i64 p))]) [] (λ_=>[]) l.length (λk=>u=(l.drop k).any λx=>! cB x) Z λi k w L b=>?_;clear d;refine H kV ?_;by_cases z:k<l.length
 ·let⟨y,c,g⟩:=aC z;rw[g,bH_]at b;have f:=DJ (U:=U) (O:=O) y (o y (aZ c)).1 (o y (aZ c)).2;let⟨h,j⟩:=au (cB y);rw[<-j]at f b;repeat' first|refine og kV (D.ind rfl rfl (cG (l:=l) w c) cH) ?_|refine bg kV (pl f) (λ_=>?_) λ_=>?_|refine cg kV (λn=>?_) λn=>?_|refine lg kV λm A=>?_|refine ag kV λ_ _=>?_|refine xG kV ?_|refine rG kV ?_|refine fq ?_
  all_goals first|refine I.bu _ [] ?_ ?_ cq;grind;omega|exact M8 (h1 Z)|omega
 rw[ar_ X,dk_]at b;subst b;refine lg kV λq1 B=>?_;refine bq (λa=>?_) λa=>?_<;>(try simp only[bT,aA]at a);grind;refine H kV ?_;refine xG kV ?_;refine bL 0 0 [] (λp=>[(0,tl O l),(1,tl O r),(7,.v (.int .i64 p))]) [] (λ_=>[]) r.length (λk=>v=(r.drop k).any λx=>! cB x) Z λM C E N b=>?_;clear e;refine H kV ?_;by_cases F:C<r.length
 ·let⟨y,c,g⟩:=aC F;rw[g,bH_]at b;have f:=DJ (U:=U) (O:=O) y (q y (aZ c)).1 (q y (aZ c)).2;let⟨h,j⟩:=au (cB y);rw[<-j]at f b;repeat' first|refine og kV (D.ind rfl rfl (cG (l:=r) E c) cH) ?_|refine bg kV (pl f) (λ_=>?_) λ_=>?_|refine cg kV (λn=>?_) λn=>?_|refine lg kV λm A=>?_|refine ag kV λ_ _=>?_|refine xG kV ?_|refine rG kV ?_|refine fq ?_
  all_goals first|refine I.bu _ [] ?_ ?_ cq;grind;omega|exact M8 (h2 rfl Z)|omega
 rw[ar_ X,dk_]at b;subst b;refine lg kV λq1 B=>?_;refine bq (λa=>?_) λa=>?_<;>(try simp only[bT,aA]at a);grind;refine H kV ?_;refine xG kV ?_;refine lg kV λP Q=>?_;refine lg kV λR G=>?_;by_cases s:l.length=r.length;have h4:=h4 rfl rfl s;refine bq (λa=>?_) λa=>?_<;>(try simp only[bT,aA]at a);grind;refine H kV ?_;apply bh kV h4;refine fq ?_;exact .refl _;·refine bq (λa=>?_) λa=>?_<;>(try simp only[bT,aA]at a);rotate_left;grind;refine H kV ?_;refine fq ?_;exact M8 (h3 rfl rfl s)
theorem adI{a b:Tm}{cc:Int}(c:Pure (.aM [.sl ex rows,iv cc]))(h:ad U 313 [tl O [a],tl O [b]] (.aM [.sl ex rows,iv cc])):ad U 278 [tm O a,tm O b] (.aM [.sl ex rows,iv cc]):=by refine st aq8 amh c ?_;refine og amh (D.qu rfl h ⟨cQ _,cQ _,trivial⟩ ⟨IE a,IE b,trivial⟩) ?_;refine fq ?_;exact .refl _
theorem Sz{a b:Tm}{cc:Int}(h:ad U 278 [tm O a,tm O b] (.aM [.sl ex rows,iv cc])):ad U 216 [tm O a,tm O b] (.v (.bool (decide (cc=0\/cc=6)))):=by
 let⟨R,c⟩:=au (decide (cc=0\/cc=6));rw[<-c];refine st aq9 adH .v ?_;apply bh adH h;repeat' first|refine cg adH (λd=>?_) λd=>?_|refine fq ?_
 all_goals refine aO ?_;rw[c];simp_all
theorem ami(g:l.length<=100000000)(L:r.length<=100000000)(B:∀x∈l,x.ok/\dD x<=1099511627776)(C:∀x∈r,x.ok/\dD x<=1099511627776):ad U 313 [tl O l,tl O r] (Eu O (nQ l r)):=by
 have E:∀c:Int,nQ l r=([],c)->(∀{ex rows cc},ex=true/\rows=[]/\cc=c->Pure (.aM [.sl ex rows,iv cc])->ad U 313 [tl O l,tl O r] (.aM [.sl ex rows,iv cc]))->ad U 313 [tl O l,tl O r] (Eu O (nQ l r)):=λc h k=>by rw[h];exact aq.fz (k ⟨rfl,rfl,rfl⟩ (iR c)) (λS=>sF) (iz _)
 by_cases P:(l.any λx=>! cB x)=true;grind[nQ,LO];by_cases Q:(r.any λx=>! cB x)=true;grind[nQ,LO];by_cases i:l.length=r.length;rotate_left;grind[nQ,LO];have v:nQ l r=oC iY (l.zip r):=by grind[nQ]
 have j:∀x∈l,e_ x/\kL x/\ve x/\tp x/\cL x<=200:=λx d=>xK Z (B x d).1;have m:∀x∈r,e_ x/\kL x/\ve x/\tp x/\cL x<=200:=λx d=>xK Z (C x d).1;have f:∀e∈l.zip r,e.1∈l/\e.2∈r:=λe a=>⟨(cG_ a).1,(cG_ a).2⟩;have p:zS (l.zip r)<=100000000000:=by have:=Sm (l.zip r) λe a=>⟨(j _ (f e a).1).2.2.2.2,(m _ (f e a).2).2.2.2.2⟩;rw[cL_]at this;omega
 have s:∀x∈l,e_ x/\kL x:=λx d=>⟨(j x d).1,(j x d).2.1⟩;have t:∀x∈r,e_ x/\kL x:=λx d=>⟨(m x d).1,(m x d).2.1⟩;have G:∀{ex rows cc},Pure (.aM [.sl ex rows,iv cc])->aG prog U 330 [tl O l,tl O r] (aw [] 0) (.aM [.sl ex rows,iv cc]) (aw [] 0)->ad U 313 [tl O l,tl O r] (.aM [.sl ex rows,iv cc]):=λF h =>LO F g L B C (λh=>absurd h P) (λ_ h=>absurd h Q) (λ_ _ h=>absurd i h) λ_ _ _=>aq.Ae (S':=aw [] 0) h (.refl _) F;let⟨b,N,R,u,T,V⟩:=ak5 (l.zip r) λe a=>⟨⟨(j _ (f e a).1).1,(j _ (f e a).1).2.2.1⟩,(m _ (f e a).2).1,(m _ (f e a).2).2.2.1⟩;cases b with|false =>have e:=T rfl;rw[v,e];exact aq.fz (G (iR 13) (IH g i s t p u (iR 13) (λ_=>rfl) λh=>Z)) (λS=>sF) (iz _)|true =>let⟨w,hG,q,⟨y,z⟩,W,hs⟩:=V rfl;cases q with|none =>rw[v,W rfl];exact aq.fz (G (iR 13) (IH g i s t p u (iR 13) (λ_=>rfl) λ_=>⟨y,none,w,z,λ_=>rfl,λn h=>Z⟩)) (λS=>sF) (iz _)|some n =>let⟨M,J,a⟩:=hs n rfl;rw[v,a];cases K:yz N R n M (List.range N.length) [] with|none =>exact aq.fz (G (iR 6) (IH g i s t p u (iR 6) (λh=>Z) λ_=>⟨y,some n,w,z,λh=>Z,λA h=>⟨M,J,by cases oJ_ h;rw[K];rfl⟩⟩)) (λS=>sF) (iz _)|some o =>exact G (iz (o,0)) (IH g i s t p u (iz (o,0)) (λh=>Z) λ_=>⟨y,some n,w,z,λh=>Z,λA h=>⟨M,J,by cases oJ_ h;rw[K];rfl⟩⟩)
theorem amj{a b:Tm}(d:a.ok/\dD a<=1099511627776)(e:b.ok/\dD b<=1099511627776):ad U 278 [tm O a,tm O b] (Eu O (nQ [a] [b])):=by have h:=ami (U:=U) (O:=O) (l:=[a]) (r:=[b]) aE aE (λx c=>Z) λx c=>Z;exact adI (iz _) h
def aim{a b:Tm}(c:a.ok/\dD a<=1099511627776)(d:b.ok/\dD b<=1099511627776):ad U 216 [tm O a,tm O b] (.v (.bool (decide ((nQ [a] [b]).2=0\/(nQ [a] [b]).2=6)))):=Sz (amj c d)
def aq_:=aD func213 call213
def Xk:=[2,0,1]
def agj:=aD func276 call276
def yH:=[1,2,0,10]
def agk:=aD func212 call212
def amk:=[2,0,3]
def ara:=aD func214 call214
def Ex:=[7,9,4,5,43,6,1,2,18,26,8,10,42,0,44,50,56]
def arb:=aD func149 call149
def adJ:=[1,2,0]
def Xl:=aD func150 call150
def pH:=[1,3,4,21,2,0,7,22,26,31,34,46,54,62]
def avP:=aD func82 call82
def yZ:=[8,7,0,1,6,2,5,15,29]
def BQ(t:Tm):Prop:=t.ok/\cL t<=100000000000
theorem Kq(x:Tm)(a:BQ x):ad U 213 [tm O x] (.v (.bool (tc x))):=by
 have b:=MD (U:=U) (O:=O) x a.1 (by have:=On x;have:=a.2;omega);unfold tc;let⟨V,c⟩:=au (varsOf [x]);rw[<-c]at b⊢;let⟨R,d⟩:=au V.isEmpty;rw[<-d];clear a c;refine st aq_ Xk .v ?_;repeat' first|apply bh Xk b|refine cg Xk (λe=>?_) λe=>?_|refine lg Xk λm f=>?_|refine fq ?_
 all_goals refine aO ?_;rw[d];cases V<;>simp_all<;>omega
theorem Xm(n:Nat):∀x:Tm,cL x<=n->ad U 276 [tm O x] (.v (.bool (oJ x))):=by induction n with|zero=>intro x h;have:=ff x;omega|succ m d =>
  intro x c;rw[ff]at c;let⟨R,b⟩:=au (oJ x);rw[<-b];let⟨k,i,n,a⟩:=x;rw[oJ]at b;simp only at c;have e:=UB (U:=U) n;let⟨t,o⟩:=au (eZ n);rw[<-o]at e b;clear o;by_cases u:a.length=2;rotate_left
  ·clear d c;have v:R=if k=0\/k=1 then true else false:=Z;clear b;refine st agj yH .v ?_;repeat' first|refine bg yH (pl e) (λ_=>?_) λ_=>?_|refine cg yH (λf=>?_) λf=>?_|refine lg yH λm w=>?_|refine fq ?_
   all_goals first|omega|refine aO ?_;rw[v];simp_all;done
  match a,u with
  |[x,y],_ =>
  simp only[bC]at c;have g:=d x X;have j:=d y X;clear d c;simp only[Pc]at b;let⟨p,r⟩:=au (oJ x);let⟨q,s⟩:=au (oJ y);rw[<-r]at g b;rw[<-s]at j b;clear r s;refine st agj yH .v ?_;repeat' first|refine bg yH (pl e) (λ_=>?_) λ_=>?_|refine og yH (D.ind rfl rfl (cG (l:=[x,y]) (k:=0) rfl rfl) cH) ?_|refine og yH (D.ind rfl rfl (cG (l:=[x,y]) (k:=1) rfl rfl) cH) ?_|refine bg yH (pl g) (λ_=>?_) λ_=>?_|refine bg yH (pl j) (λ_=>?_) λ_=>?_|refine cg yH (λf=>?_) λf=>?_|refine lg yH λm w=>?_|refine fq ?_
  all_goals clear e g j
  all_goals refine aO ?_;rw[b];simp_all;done
def Ow(x:Tm):ad U 276 [tm O x] (.v (.bool (oJ x))):=Xm _ x (aj_ _)
theorem II(b:Bool):ad U 212 [.v (.bool b)] (iv (qi b)):=by
 cases b
 ·skip;refine st agk amk .v ?_;repeat' first|refine fq ?_
  exact dA rfl
 ·skip;refine st agk amk .v ?_;repeat' first|refine fq ?_
  exact dA rfl
theorem adK(op:Int)(a b:Tm)(t:BQ a)(m:BQ b):ad U 214 [iv op,tm O a,tm O b] (iv (xx op a b)):=by
 have n:=Ow (U:=U) (O:=O) a;have o:=Ow (U:=U) (O:=O) b;have r:=Kq (U:=U) (O:=O) a t;have s:=Kq (U:=U) (O:=O) b m;have d:=aas (U:=U) (O:=O) a;have g:=aas (U:=U) (O:=O) b;let⟨R,c⟩:=au (xx op a b);rw[<-c];unfold xx at c;let⟨v,h⟩:=au (oJ a);let⟨w,u⟩:=au (oJ b);let⟨GA,i⟩:=au (tc a);let⟨GB,j⟩:=au (tc b);let⟨⟨p,e⟩,k⟩:∃x,x=pD a:=⟨_,rfl⟩;let⟨⟨q,f⟩,l⟩:∃x,x=pD b:=⟨_,rfl⟩;rw[<-h]at n c;rw[<-u]at o c;rw[<-i]at r c;rw[<-j]at s c;rw[<-k]at d c;rw[<-l]at g c;rw[mR]at d g;simp only at d g c;clear h u i j k l t m;unfold W_ at c;refine st ara Ex .v ?_;repeat' first|refine bg Ex (pl n) (λ_=>?_) λ_=>?_|refine bg Ex (pl o) (λ_=>?_) λ_=>?_|refine bg Ex (pl r) (λ_=>?_) λ_=>?_|refine bg Ex (pl s) (λ_=>?_) λ_=>?_|apply bh Ex d|apply bh Ex g|apply bh Ex (II _)|refine cg Ex (λm=>?_) λm=>?_|refine fq ?_
 all_goals clear n o r s d g
 all_goals refine dA ?_;rw[c];simp_all[qi];done
theorem Ey(g:Gl)(c:m_ 100000000000 g):ad U 149 [gl O g] (.v (.bool (kZ g))):=by
 have d:=zN (U:=U) (O:=O) g (c.pM aJ) c.2.2;let⟨R,b⟩:=au (kZ g);rw[<-b];unfold kZ ny at b;let⟨G,e⟩:=au (dw g);rw[<-e]at d b;let⟨o,n,a⟩:=g;simp only at b;clear c e;refine st arb adJ .v ?_;repeat' first|refine bg adJ (pl d) (λ_=>?_) λ_=>?_|refine cg adJ (λf=>?_) λf=>?_|refine fq ?_
 all_goals clear d
 all_goals refine aO ?_;rw[b];simp_all<;>omega
theorem ain(g:Gl)(c:m_ 100000000000 g)(f:kZ g=false):ad U 150 [gl O g] (iv (nt g)):=by
 have d:=Ey (U:=U) (O:=O) g c;have e:=zN (U:=U) (O:=O) g (c.pM aJ) c.2.2;let⟨R,b⟩:=au (nt g);rw[<-b];unfold nt at b;rw[if_neg Z]at b;rw[f]at d;let⟨G,h⟩:=au (dw g);rw[<-h]at e b;let⟨o,n,a⟩:=g;simp only at b;clear c h f;refine st Xl pH .v ?_;repeat' first|apply bh pH d|refine bg pH (pl e) (λ_=>?_) λ_=>?_|apply bh pH (II _)|refine cg pH (λi=>?_) λi=>?_|refine fq ?_
 all_goals clear d e
 all_goals refine dA ?_;rw[b];simp_all[qi];done
theorem aio(op:Int)(n:ByteArray)(x:Tm)(b:m_ 100000000000 ⟨op,n,[x]⟩)(c:kZ ⟨op,n,[x]⟩=true)(p:op=11\/op=12):ad U 150 [gl O ⟨op,n,[x]⟩] (iv (nt ⟨op,n,[x]⟩)):=by
 have d:=Ey (U:=U) (O:=O) _ b;have f:BQ x:=⟨b.1.mem x aE,by have:=b.2.1;simp only[bC]at this;omega⟩;have e:=Kq (U:=U) (O:=O) x f;let⟨R,a⟩:=au (nt ⟨op,n,[x]⟩);rw[<-a];unfold nt at a;rw[if_pos c]at a;simp only[RX]at a;rw[c]at d;let⟨G,g⟩:=au (tc x);rw[<-g]at e a;let⟨h,i,j,m⟩:=x;simp only at a;clear b g c f;refine st Xl pH .v ?_;repeat' first|apply bh pH d|refine og pH (D.ind rfl rfl (cG (l:=[⟨h,i,j,m⟩]) (k:=0) rfl rfl) cH) ?_|refine bg pH (pl e) (λ_=>?_) λ_=>?_|apply bh pH (II _)|refine cg pH (λo=>?_) λo=>?_|refine fq ?_
 all_goals clear d e
 all_goals first|omega|refine dA ?_;rw[a];simp_all[qi];done
theorem aip(op:Int)(n:ByteArray)(x y:Tm)(e:m_ 100000000000 ⟨op,n,[x,y]⟩)(i:kZ ⟨op,n,[x,y]⟩=true)(s:op≠11/\op≠12):ad U 150 [gl O ⟨op,n,[x,y]⟩] (iv (nt ⟨op,n,[x,y]⟩)):=by
 have j:=Ey (U:=U) (O:=O) _ e;have J:=e.2.1;simp only[bC]at J;have f:BQ x:=⟨e.1.mem x aE,X⟩;have g:BQ y:=⟨e.1.mem y aE,X⟩;have m:=M1 (U:=U) (O:=O) x y f.1 g.1;have h:=aim (U:=U) (O:=O) (a:=x) (b:=y) ⟨f.1,by grind[Hl]⟩ ⟨g.1,by grind[Hl]⟩;have o:dw ⟨op,n,[x,y]⟩=true:=by grind[kZ]
 rw[LF (xy o x aE) (xy o y aE)]at h;have p:=adK (U:=U) (O:=O) op x y f g;let⟨R,d⟩:=au (nt ⟨op,n,[x,y]⟩);rw[<-d];unfold nt at d;rw[if_pos i]at d;simp only[RX]at d;rw[if_neg s.1,if_neg s.2]at d;rw[i]at j;let⟨q,r⟩:=au (ac5 x y);rw[<-r]at d;rw[show decide ((oC iY [(x,y)]).2=0\/(oC iY [(x,y)]).2=6)=q from r.symm]at h;let⟨V,t⟩:=au (xx op x y);rw[<-t]at p d;let⟨c,u⟩:=au (fJ x y==0);rw[<-u]at m;have v:fJ x y=0↔c=true:=Z;simp only[v]at d;clear e r t u v i f g o;let⟨w,z,A,B⟩:=x;let⟨C,E,F,G⟩:=y;refine st Xl pH .v ?_;repeat' first|apply bh pH j|refine og pH (D.ind rfl rfl (cG (l:=[⟨w,z,A,B⟩,⟨C,E,F,G⟩]) (k:=0) rfl rfl) cH) ?_|refine og pH (D.ind rfl rfl (cG (l:=[⟨w,z,A,B⟩,⟨C,E,F,G⟩]) (k:=1) rfl rfl) cH) ?_|refine bg pH (pl m) (λ_=>?_) λ_=>?_|refine bg pH (pl h) (λ_=>?_) λ_=>?_|apply bh pH p|apply bh pH (II _)|refine cg pH (λK=>?_) λK=>?_|refine fq ?_
 all_goals clear j m h p
 all_goals first|omega|refine dA ?_;rw[d];simp_all[qi];done
theorem aiq(g:Gl)(f:m_ 100000000000 g):ad U 150 [gl O g] (iv (nt g)):=by cases d:kZ g with|false=>exact ain g f d|true =>
  have e:=d;unfold kZ ny at e;rw[aw_,aw_,decide_eq_true_eq,decide_eq_true_eq]at e;have b:=LG e.2 X;let⟨op,n,a⟩:=g;simp only at b e;unfold arity at b;by_cases c:op=11\/op=12;rw[if_neg X,if_pos c]at b;match a,b with|[x],_=>exact aio op n x f d c
  rw[if_neg X,if_neg c,if_pos X]at b;match a,b with|[x,y],_=>exact aip op n x y f d ⟨λh=>c (.inl h),λh=>c (.inr h)⟩
theorem aml(b:List Bd)(kn:List Gl)(g:Gl)(a:b.length<=1099511627776)(P:kn.length<=1099511627776)(t:g_ 200 b)(u:fC b)(v:m_ 100000000 g)(l:∀k∈kn,m_ 100000000 k):ad U 82 [a_ O b,dI O kn,gl O g] (iv (tI b kn g)):=by
 have n:=Sx (U:=U) (O:=O) a g (aD_ v.2.1 aJ);have o:m_ 100000000000 (gM b g):=(v.app t u aJ).mono aJ;have f:=Ey (U:=U) (O:=O) _ o;have h:=aiq (U:=U) (O:=O) _ o;have p:∀k∈kn,ad U 148 [a_ O b,gl O k] (gl O (gM b k))/\ad U 39 [gl O (gM b g),gl O (gM b k)] (.v (.bool (nA (gM b g) (gM b k)))):=λk z =>⟨Sx a k (aD_ (l k z).2.1 aJ),adL _ _ (o.ok aJ) ((((l k z).app t u aJ).mono (by decide:_<=100000000000)).ok aJ)⟩;let⟨R,e⟩:=au (tI b kn g);rw[<-e];unfold tI at e;let⟨G,w⟩:=au (gM b g);rw[<-w]at n f h e;simp only[<-w]at p;let⟨T,A⟩:=au (kZ G);let⟨W,B⟩:=au (nt G);rw[<-A]at f e;rw[<-B]at h e;clear t u v l o w A B a;let⟨Go,q,r⟩:=G;let⟨go,Q,S⟩:=g;refine st avP yZ .v ?_;apply bh yZ n;refine bL 2 2 [] (λi=>[(0,a_ O b),(1,dI O kn),(7,.pt 1 3 0 0),(8,.v (.int .i64 i))]) [] (λ_=>[(1,.arr 3 [sQ O ⟨Go,q,r⟩] 0 true)]) kn.length (λk=>R=if(T&&(kn.drop k).any λk=>nA (gM b k) ⟨Go,q,r⟩)=true then 1 else W) Z λi k J l d=>?_;clear e;refine H yZ ?_;by_cases K:k<kn.length
 ·let⟨y,C,L⟩:=aC K;let⟨x,s⟩:=p y (aZ C);rw[L,bH_,ac6]at d;let⟨j,E⟩:=au (gM b y);rw[<-E]at x s d;let⟨c,F⟩:=au (nA ⟨Go,q,r⟩ j);rw[<-F]at s d;let⟨V,M⟩:=au ((kn.drop (k+1)).any λk=>nA (gM b k) ⟨Go,q,r⟩);rw[<-M]at d;let⟨yo,yn,ya⟩:=y;let⟨Yo,Yn,Ya⟩:=j;clear E F;repeat' first|refine bg yZ (pl f) (λ_=>?_) λ_=>?_|refine og yZ (D.bw J C) ?_|apply bh yZ x|refine bg yZ (pl s) (λ_=>?_) λ_=>?_|refine cg yZ (λa=>?_) λa=>?_|refine lg yZ λm N=>?_|refine ag yZ λ_ _=>?_|refine xG yZ ?_|refine rG yZ ?_|refine fq ?_
  all_goals clear f h x s n p
  all_goals first|refine dA ?_;rw[d];simp_all;done|omega|exact cw _ [] (k+1) Z
 ·skip;repeat' first|apply bh yZ h|refine cg yZ (λa=>?_) λa=>?_|refine lg yZ λm N=>?_|refine xG yZ ?_|refine fq ?_
  all_goals clear f h n p
  all_goals first|omega|rw[ar_ X,dk_,bx_,if_neg aE]at d;exact dA d.symm
def avQ:=aD func84 call84
def Fq:=[5,0,4,1,9,3,18]
def avR:=aD func37 call37
def jw:=[19,6,16,17,20,18,25,5,14,15,0,7,37,41,46,57,1,22,68,21,24,80,23,86,2,3,99,4,108]
theorem g_.ins{M:Nat}(h:g_ M e){x:Bd}(c:cL x.t<=M):g_ M (nq e x):=λb a=>by rcases z8.1 a with rfl|a;grind;exact h b a
mutual theorem adM{M:Nat}:∀(p t:Tm)(e e':List Bd),g_ M e->cL t<=M->qK p t e=some e'->g_ M e' |⟨k,i,n,a⟩,t,e,e',c,g,h=>by rw[qK]at h;split at h;split at h;exact Hu a t.a e e' c (by grind[ff]) h;grind;split at h;split at h;grind;cases oJ_ h;exact c.ins g;grind;theorem Hu{M:Nat}:∀(a b:List Tm)(e e':List Bd),g_ M e->bC b<=M->jC a b e=some e'->g_ M e'|[],b,e,e',c,d,h=>by grind[jC]|x::a,[],e,e',c,d,h=>by grind[jC]|x::a,y::b,e,e',c,d,h=>by rw[jC]at h;rw[bC]at d;split at h;grind;rename_i f j;exact Hu a b f e' (adM x y e f c X j) X h;end
theorem Kr{M:Nat}{x y:At}{e':List Bd}(b:fC e)(hs:g_ M e)(a:tL M y)(h:qj x y e=some e'):fC e'/\g_ M e'/\e'.length<=e.length+bC x.a:=by unfold qj at h;split at h;let⟨c,d⟩:=Ke x.a y.a e e' b a.1 h;exact⟨c,Hu x.a y.a e e' hs a.2.1 h,d⟩;grind
theorem arc(l:List Fi)(f:Fi)(v:l.length<=1099511627776)(b:∀x∈l,x.ids.length<=1099511627776)(j:f.ids.length<=1099511627776):ad U 84 [mX O l,fi O f] (.v (.bool (Es l f))):=by
 have n:∀x∈l,ad U 151 [fi O x,fi O f] (iv (po x f)):=λx h=>Y_ x f (b x h) j;let⟨R,d⟩:=au (Es l f);rw[<-d];unfold Es at d;let⟨e,fi⟩:=f;clear b j;refine st avQ Fq .v ?_;refine bL 1 1 [] (λi=>[(0,mX O l),(3,.pt 0 2 0 0),(5,.v (.int .i64 i))]) [] (λ_=>[(0,.arr 2 [I9 O ⟨e,fi⟩] 0 true)]) l.length (λk=>R=(l.drop k).any λx=>po x ⟨e,fi⟩==0) (by simpa using d) λi k r w a=>?_;clear d;refine H Fq ?_;by_cases s:k<l.length
 ·let⟨x,b,t⟩:=aC s;rw[t,bH_]at a;have o:=n x (aZ b);let⟨c,p⟩:=au (po x ⟨e,fi⟩);rw[<-p]at o a;let⟨y,q⟩:=au ((l.drop (k+1)).any λx=>po x ⟨e,fi⟩==0);rw[<-q]at a;let⟨z,A⟩:=x;clear n p;repeat' first|refine og Fq (D.bw r b) ?_|refine ig Fq (pl o) λ_ _=>?_|refine cg Fq (λg=>?_) λg=>?_|refine lg Fq λm u=>?_|refine ag Fq λ_ _=>?_|refine xG Fq ?_|refine rG Fq ?_|refine fq ?_
  all_goals first|refine aO ?_;rw[a];simp_all;done|exact cw _ [] (k+1) (by rw[a,<-q];simp_all)
 ·skip;repeat' first|refine cg Fq (λg=>?_) λg=>?_|refine lg Fq λm u=>?_|refine xG Fq ?_|refine fq ?_
  all_goals first|omega|rw[a,ar_ X];exact aO rfl
structure Fs(r:Rl):Prop where
 hn:(r.aP++r.rem).length<=1000000ha:∀x∈r.aP++r.rem,tL 200 x
 gn:r.guard.length<=1000000ga:∀g∈r.guard,m_ 200 g/\pe g.a
 bn:r.body.length<=1000000ba:∀g∈r.body,m_ 200 g/\pe g.a
 v0:0<=r.vars
 v1:r.vars<=1099511627776
structure Jz(s:dp):Prop where
 sn:s.store.length<=1000000sa:∀x∈s.store,tL 200 ⟨x.n,x.a⟩bn:s.binds.length<=1000000bo:fC s.binds
 bs:g_ 200 s.binds
 kn:s.known.length<=1000000ka:∀g∈s.known,m_ 200 g
 fn:s.bE.length<=1000000fa:∀x∈s.bE,x.ids.length<=1000000f0:0<=s.fresh
 f1:s.fresh<=1099511627776
theorem air{O:Hd}:aL S (.sl true []) (a_ O []):=by rw[a_,bN];exact aL.wk
theorem SE{l:List Int}{x:Int}:(l.take i).contains x=true↔∃j,j<i/\l[j]?=some x:=by rw[bV_,dx_];constructor;grind;rintro⟨j,a,h⟩;exact⟨j,Z⟩
theorem ard(p:Pg)(s:dp)(k:Nat)(f:Int)(r:Rl)(ids:List Int)(nF:f=k)(V:p.rs[k]?=some r)(m:Fs r)(hs:Jz s)(uw:ids.length<=1000000):ad U 37 [pg O p,mH O s.store,a_ O s.binds,dI O s.known,mX O s.bE,iv f,aQ O aH false ids] (w8 O (uv s r f ids)):=by
 have hh:=Gg (U:=U) (O:=O) r (by have:=m.hn;rw[ay_]at this;omega);have tt:=UP (U:=U) (O:=O) r (by have:=m.hn;rw[ay_]at this;omega);have w:=arc (U:=U) (O:=O) s.bE ⟨f,ids⟩ (by have:=hs.fn;omega) λx W=>by have:=hs.fa x W;omega (by simp only;omega);have U0:=λi=>YU (U:=U) (O:=O) s.store i (by have:=hs.sn;omega);have Jn:∀i,tL 200 (jT s.store i).1:=λi=>by unfold jT;cases K:s.store.find? λx=>x.id==i with|none=>exact⟨by rw[dO];trivial,by simp only[bC];omega,aJ⟩|some x=>exact hs.sa x (cd_ K)
 let⟨n,u⟩:=au (r.aP++r.rem);have L:∀x∈n,tL 200 x:=by rw[u];exact m.ha
 have hHn:n.length<=1000000:=by rw[u];exact m.hn
 have C:∀(e:List Bd),fC e->g_ 200 e->e.length<=200000000->∀g∈r.guard,ad U 38 [a_ O e,iv 0,gl O g] (gl O (gL e 0 g))/\ad U 82 [a_ O s.binds,dI O s.known,gl O (gL e 0 g)] (iv (tI s.binds s.known (gL e 0 g))):=λe h1 z h3 g hg =>⟨Jy X aJ aJ g (aD_ (m.ga g hg).1.2.1 aJ) (m.ga g hg).2,aml _ _ _ (by have:=hs.bn;omega) (by have:=hs.kn;omega) hs.bs hs.bo (((m.ga g hg).1.ins z h1 aJ).mono aJ) λk V=>(hs.ka k V).mono aJ⟩;let⟨R,a⟩:=au (uv s r f ids);rw[<-a];unfold uv mQ M0 at a;rw[<-u]at hh a;let⟨pd,pr⟩:=p;let⟨sg,M,E,sf,G,sn,Ft,sfl⟩:=s;let⟨rn,rk,rr,rg,rb,rv⟩:=r;simp only at w U0 Jn C a V tt;let⟨PE,P⟩:=au rr.isEmpty;rw[<-P]at tt a;let⟨HF,Q⟩:=au (Es sf ⟨f,ids⟩);rw[<-Q]at w a;have hgn:=m.gn;simp only at hgn;clear P Q hs m u;refine st avR jw (rP _) ?_;refine og jw (D.bw nF V) ?_;apply bh jw hh;refine lg jw λq1 tj=>?_;refine lg jw λq2 uI=>?_;refine cn (λbD=>?_) λbD=>?_;refine H jw ?_;rw[if_neg X]at a;refine fq ?_;rw[a];exact mC;have Hf:ids.length=n.length:=X;rw[if_pos Hf]at a;let⟨zzO,hO⟩:=au (vX M n ids [] []);rw[<-hO]at a;refine H jw ?_;refine I.cv (Cv.ac0 (t:=18) (a':=a_ O []) (N:=ao.none_) (λk o h=>by cases h) (aj_ _) (λk o h=>⟨h,rfl⟩) (λh=>by cases show AV.sl true []=AV.u from h) air) ?_;refine cW (τ:=List Bd) 2 2 [] (λp=>[(1,mH O M),(2,a_ O E),(3,dI O G),(4,mX O sf),(5,.v (.int .i64 f)),(6,aQ O aH false ids),(16,.pt 1 6 0 0),(17,dW O n),(18,a_ O p.2),(19,.v (.int .i64 p.1))]) [] (λ_=>[(1,.arr 6 [lV O ⟨rn,rk,rr,rg,rb,rv⟩] 0 true)]) n.length (λi p=>fC p.2/\g_ 200 p.2/\p.2.length<=200*i/\zzO=vX M (n.drop i) (ids.drop i) (ids.take i) p.2) [] ⟨(λb h=>by cases h),(λb h=>by cases h),aE,by simpa using hO⟩ ?_;rintro ii i e lD hil⟨nH,Di,Jg,d⟩;simp only at lD nH Di Jg d;clear hO;refine H jw ?_;refine lg jw λq3 Bw=>?_;refine cn (λcd=>?_) λcd=>?_;rotate_left
 ·rw[aP_ X,vX]at d;rw[d]at a;simp only at a;have C:=C e nH Di X;clear U0 Jn hh L;refine H jw ?_;refine xG jw ?_;refine bL 2 2 [] (λp=>[(2,a_ O E),(3,dI O G),(4,mX O sf),(5,.v (.int .i64 f)),(6,aQ O aH false ids),(16,.pt 1 6 0 0),(18,a_ O e),(25,.v (.int .i64 p))]) [] (λ_=>[(1,.arr 6 [lV O ⟨rn,rk,rr,rg,rb,rv⟩] 0 true)]) rg.length (λg=>R=if(!(PE&&HF)&&(rg.drop g).all λg=>decide (tI E G (gL e 0 g)=1))=true then some e else none) (by simpa using a) λgi g LP Jo v=>?_;clear a;refine H jw ?_;refine lg jw λq4 hq4=>?_;by_cases az:g<rg.length
  ·let⟨y,J,en⟩:=aC az;let⟨S,cV⟩:=C y (aZ J);rw[en,aL_]at v;let⟨T,hY⟩:=au (gL e 0 y);rw[<-hY]at S cV v;let⟨c,hc⟩:=au (tI E G T);rw[<-hc]at cV v;let⟨RS,rQ⟩:=au ((rg.drop (g+1)).all λg=>decide (tI E G (gL e 0 g)=1));rw[<-rQ]at v;let⟨yo,yn,ya⟩:=y;let⟨Yo,Yn,Ya⟩:=T;clear hY hc C;repeat' first|refine og jw (D.bw LP J) ?_|apply bh jw S|refine ig jw (pl cV) λ_ _=>?_|refine cg jw (λhb=>?_) λhb=>?_|refine ag jw λ_ _=>?_|refine xG jw ?_|refine rG jw ?_|refine fq ?_
   all_goals first|omega|have S:¬c=1:=X;have h:R=none:=Z;rw[h];exact mC|have S:c=1:=X;exact cw _ [] (g+1) (by rw[v,<-rQ,decide_eq_true S];simp)
  ·rw[aP_ X,bn_,bC_]at v;repeat' first|refine bg jw (pl tt) (λ_=>?_) λ_=>?_|refine bg jw (pl w) (λ_=>?_) λ_=>?_|refine cg jw (λhb=>?_) λhb=>?_|refine xG jw ?_|refine fq ?_
   all_goals first
    |omega
    |(have h:R=none:=by rw[v];simp_all
      rw[h];exact mC)
    |(have h:R=some e:=by rw[v];simp_all
      rw[h];exact .refl _)
 let⟨⟨hn,ha⟩,W,aS⟩:=aC (l:=n) (k:=i) X;let⟨x,J,en⟩:=aC (l:=ids) (k:=i) X;rw[aS,en,vX]at d;clear C;refine H jw ?_;refine bL 2 2 [] (λp=>[(1,mH O M),(2,a_ O E),(3,dI O G),(4,mX O sf),(5,.v (.int .i64 f)),(6,aQ O aH false ids),(16,.pt 1 6 0 0),(17,dW O n),(18,a_ O e),(19,.v (.int .i64 ii)),(20,.v (.int .i64 p))]) [] (λ_=>[(1,.arr 6 [lV O ⟨rn,rk,rr,rg,rb,rv⟩] 0 true)]) i (λj=>∀q,q<j->ids[q]?≠some x) (λq h=>X) λji j Dh ZP pF=>?_;refine H jw ?_;refine cn (λgJ=>?_) λgJ=>?_
 ·let⟨y,A⟩:∃y,ids[j]?=some y:=⟨_,ax_ X⟩;refine H jw ?_;refine og jw (D.bw Dh A) ?_;refine og jw (D.bw lD J) ?_;refine cn (λov=>?_) λov=>?_
  ·rw[if_pos (SE.2 ⟨j,X,by rw[A,ov]⟩)]at d;refine H jw ?_;repeat refine rG jw ?_
   refine fq ?_;have h:R=none:=by rw[a,d]
   rw[h];exact mC
  refine H jw ?_;refine ag jw λi4 Jp=>?_;exact cw i4 [] (j+1) λq h z=>by by_cases e:q=j;subst e;rw[A]at z;exact ov (oJ_ z);exact pF q X z
 rw[if_neg λh=>by let⟨q,h1,z⟩:=SE.1 h;exact pF q X z]at d;have K:=U0 x;have VL:=Jn x;let⟨⟨⟨fn,fa⟩,fb⟩,hF⟩:∃F,F=jT M x:=⟨_,rfl⟩;rw[<-hF]at K VL d;simp only at K VL d;have B:=L _ (aZ W);have Z6:=alM (U:=U) (O:=O) ⟨hn,ha⟩ ⟨fn,fa⟩ e (by have:=B.2.1;omega) nH (B.ok aJ) (VL.ok aJ);have ko:=λe'=>Kr (e':=e') (x:=⟨hn,ha⟩) nH Di VL;let⟨o,ho⟩:=au (qj ⟨hn,ha⟩ ⟨fn,fa⟩ e);rw[<-ho]at Z6 d;simp only[<-ho]at ko;let⟨e',b',iD,he',wh⟩:=zB (O:=O) o;rw[iD]at Z6;clear U0 Jn hF ho;refine H jw ?_;refine xG jw ?_;refine og jw (D.bw lD J) ?_;refine I.op rfl (pl K) ?_;cases fb with
 |false =>
  rw[if_neg aE]at d;refine H jw ?_;repeat refine rG jw ?_
  refine fq ?_;have h:R=none:=by rw[a,d]
  rw[h];exact mC|true =>rw[if_pos rfl]at d;refine H jw ?_;refine og jw (D.bw lD W) ?_;refine I.op rfl (pl Z6) ?_;cases o with
 |none =>
  cases(wh:b'=false);refine H jw ?_;repeat refine rG jw ?_
  refine fq ?_;have h:R=none:=by rw[a,d]
  rw[h];exact mC|some e1 =>cases(wh:b'=true);cases(he'.symm:e1=e');let⟨a1,a2,a3⟩:=ko _ rfl;have avS:=B.2.1;simp only at a3 avS d;refine H jw ?_;refine ag jw λi4 Jp=>?_;exact cO (i4,e1) [] (i+1) ⟨a1,a2,by simp only;omega,by rw[d,bP_,J];rfl⟩
def are:=aD func303 call303
def Cr:=[7,4,2,0,6,8,5,16]
def arf:=aD func338 call338
def amo:=[4,5,0,1]
def arh:=aD func339 call339
def amp:=[4,5,0,1]
def arj:=aD func340 call340
def amq:=[4,5,0,1]
def ark:=aD func343 call343
def Xp:=[0,1,4]
def arl:=aD func342 call342
def SF:=[0,1,5,4,19]
def arn:=aD func367 call367
def adO:=[1,5,6,8,2,0]
def aro:=aD func341 call341
def avT:=[2,0,1]
def arp:=aD func325 call325
def Xq:=[3,2,0,4,6,8,10,13]
def ago:=aD func305 call305
def lZ:=[10,8,1,2,9,6,7,0,14,19,34,36]
def Xr:=aD func304 call304
def jV:=[1,2,0]
def agp:=aD func266 call266
def jM:=[1,32,4,5,7,2,3,0,8,12,24,28,33,45,6]
theorem Ox(l:List Int)(j:l.length<=1099511627776):ad U 303 [aQ O aH false l] (.v (.bool (l.all iQ))):=by
 let⟨R,b⟩:=au (l.all iQ);rw[<-b];refine st are Cr .v ?_;repeat' first|refine lg Cr λm n=>?_
 refine bL 0 0 [] (λi=>[(5,aQ O aH false l),(6,.v (.int .i64 m)),(7,.v (.int .i64 i))]) [] (λ_=>[]) l.length (λk=>R=(l.drop k).all iQ) (by simpa using b) λi k e o a=>?_;clear b;refine H Cr ?_;by_cases f:k<l.length
 ·let⟨x,g,h⟩:=aC f;rw[h,aL_]at a;let⟨p,d⟩:=au ((l.drop (k+1)).all iQ);rw[<-d]at a;repeat' first|refine og Cr (D.bw e g) ?_|refine cg Cr (λc=>?_) λc=>?_|refine ag Cr λ_ _=>?_|refine xG Cr ?_|refine rG Cr ?_|refine fq ?_
  all_goals first|refine aO ?_;rw[a];unfold iQ;simp_all;omega|omega|exact cw _ [] (k+1) (by rw[a,<-d,w9.2 X,az_])
 ·skip;repeat' first|refine cg Cr (λc=>?_) λc=>?_|refine xG Cr ?_|refine fq ?_
  all_goals first|omega|rw[a,ar_ X];exact aO rfl
theorem SG(x:Int):ad U 303 [aQ O aH false [x]] (.v (.bool (iQ x))):=by have:=Ox (U:=U) (O:=O) [x] aE;simpa using this
theorem aaz(x y:Int):ad U 303 [aQ O aH false [x,y]] (.v (.bool (iQ x&&iQ y))):=by have:=Ox (U:=U) (O:=O) [x,y] aE;simpa using this
theorem amr(a b:Int)(h1:-2147483648<=a)(h2:a<=2147483648)(h3:-2147483648<=b)(h4:b<=2147483648):ad U 338 [iv a,iv b] (mR (a+b,0)):=by
 refine st arf amo (kR _) ?_;repeat' first|refine ag amo λ_ _=>?_|refine fq ?_
 all_goals refine jR ?_;simp_all
theorem ais(a b:Int)(h1:-2147483648<=a)(h2:a<=2147483648)(h3:-2147483648<=b)(h4:b<=2147483648):ad U 339 [iv a,iv b] (mR (a-b,0)):=by
 refine st arh amp (kR _) ?_;repeat' first|refine ag amp λ_ _=>?_|refine fq ?_
 all_goals refine jR ?_;simp_all
theorem ait(a b:Int)(h1:-2147483648<=a)(h2:a<=2147483648)(h3:-2147483648<=b)(h4:b<=2147483648):ad U 340 [iv a,iv b] (mR (a*b,0)):=by
 refine st arj amq (kR _) ?_;repeat' first|refine I.int rfl (D.adF rfl rfl X X X X) λq c=>?_;have d:=mbd c X X X X;refine H amq ?_|refine fq ?_
 all_goals refine jR ?_;simp_all
theorem LQ(a b:Int)(f:b≠0)(h1:-2147483648<=a)(h2:a<=2147483648):ad U 342 [iv a,iv b] (iv (a.fdiv b)):=by
 let⟨R,c⟩:=au (a.fdiv b);rw[<-c];rw[age f]at c;have d:decide (a<0)≠decide (b<0)↔a<0/\¬b<0\/¬a<0/\b<0:=by by_cases h1:a<0<;>by_cases h2:b<0<;>simp[h1,h2]
 simp only[d]at c;clear d;refine st arl SF .v ?_;repeat' first|refine I.int rfl (D.amc rfl rfl X X X) λq g=>?_;have h:=qbd g X X;refine H SF ?_|refine ig SF (D.avO rfl rfl X) λr i=>?_|exact dV e|refine cg SF (λe=>?_) λe=>?_|refine ag SF λ_ _=>?_|refine fq ?_
 all_goals refine dA ?_;subst_vars;split<;>omega
theorem arq(a b:Int)(d:b≠0)(h1:-2147483648<=a)(h2:a<=2147483648)(h3:-2147483648<=b)(h4:b<=2147483648):ad U 343 [iv a,iv b] (iv (a-a.fdiv b*b)):=by
 have c:=LQ (U:=U) a b d h1 h2;have e:=VI d h1 h2;let⟨F,f⟩:=au (a.fdiv b);rw[<-f]at c e⊢;refine st ark Xp .v ?_;repeat' first|apply bh Xp c|refine I.int rfl (D.adF rfl rfl X X X X) λq c=>?_;have g:=mbd c X X X X;refine H Xp ?_|refine ag Xp λ_ _=>?_|refine fq ?_
 all_goals refine dA ?_;simp_all
def BS(f:FuncId):AV:=.v (.func (.func f) #[] #[])
theorem Oy(q:FuncId):ad U 341 [BS q] (.fn (.func 367) [] [.ip [BS q]]):=by
 refine st aro avT (.fn (λa c=>by cases c) λa c=>by cases ae_.1 c;exact .ip λb d=>by cases ae_.1 d;exact .v) ?_;repeat' first|refine fq ?_
 refine aL.fns ?_ ?_;exact trivial;exact⟨aL.box (cs:=[BS q]) (cs':=[BS q]) rfl ⟨.refl _,trivial⟩,trivial⟩
def LR(n:ByteArray):AV:=if n.toList=(⟨⟨[43]⟩⟩:ByteArray).toList then BS 338 else if n.toList=(⟨⟨[45]⟩⟩:ByteArray).toList then BS 339 else if n.toList=(⟨⟨[42]⟩⟩:ByteArray).toList then BS 340 else if n.toList=(⟨⟨[47]⟩⟩:ByteArray).toList then .fn (.func 367) [] [.ip [BS 342]] else if n.toList=(⟨⟨[37]⟩⟩:ByteArray).toList then .fn (.func 367) [] [.ip [BS 343]] else .v .nilFunc
theorem SI(n:ByteArray):Pure (LR n):=by
 have h:∀q,Pure (.fn (.func 367) [] [.ip [BS q]]):=λq=>.fn (λa c=>by cases c) λa c=>by cases ae_.1 c;exact .ip λb d=>by cases ae_.1 d;exact .v
 unfold LR;repeat' split
 all_goals first|exact h _|exact .v
theorem agq(n:ByteArray):ad U 325 [.v (.string n)] (LR n):=by
 have c:=Oy (U:=U) 342;have d:=Oy (U:=U) 343;have a:=SI n;let⟨R,b⟩:=au (LR n);rw[<-b]at a⊢;unfold LR at b;refine st arp Xq a ?_;repeat' first|apply bh Xq c|apply bh Xq d|refine cg Xq (λe=>?_) λe=>?_|refine fq ?_
 all_goals clear c d a
 all_goals refine aL.of_eq ?_;rw[b];simp_all[BS];done
theorem aaA(q:FuncId)(a b r:Int)(d:b≠0->ad U q [iv a,iv b] (iv r)):ad U 367 [iv a,iv b,.ip [BS q]] (mR (if b=0 then(0,12) else(r,0))):=by
 let⟨R,c⟩:=au (if b=0 then((0:Int),(12:Int)) else(r,0));rw[<-c];refine st arn adO (kR _) ?_;repeat' first|apply bh adO (d (by assumption))|refine cg adO (λe=>?_) λe=>?_|refine fq ?_
 all_goals refine jR ?_;rw[c];simp_all
end
theorem Rb.yl{j k:Nat}(h:k=ι j):Rb ι (.yl j) (.yl k):=λgc g w x a c=>by subst h;cases c with|yl b=>rw[<-a.ob j b];exact .yl (a.al j b)
theorem Rb.fn{f:Fn}{l m n o:List AV}(h:VM ι l m)(k:VM ι n o):Rb ι (.fn f l n) (.fn f m o):=λgc g w x p q=>by cases q with|fn r s t u =>refine .fn (r.trans h.at.1) (s.trans k.at.1) (λi b y c d=>?_) λi b y c d=>?_;let⟨a,e,j⟩:=h.at.2 i b c;exact j gc g w y p (t i a y e d);let⟨a,e,j⟩:=k.at.2 i b c;exact j gc g w y p (u i a y e d)
section
variable{N:Nat}{args:List AV}{r:AV}
def Hy(U:World)(T:ao)(Q6:List AV)(N:Nat)(m:List (Nat×Nat)):Prop:=∀(A:Nat->Prop)(g:Gh)(w:World)(a:Array Value),St U A g T w->nI g w Q6 a->∀k J,T.get k=some (.fo J)->g.al k->∃j,j<N/\aU m j=k
theorem aiu{g:Gh}{w:World}{args':Array Value}{k sz a b:Nat}(h:nI g w Q6 args')(hi:Q6[i]?=some (.pt k sz a b)):g.al k:=by
 have d:i<args'.size:=by rw[h.1];exact(aC_.1 hi).1
 have c:=h.2 i _ _ hi (aM_ d);generalize args'[i]=v at c;cases c with|pt e=>exact e
theorem Hy.cell{k sz a b k0 q sz' fz j0:Nat}{row:List AV}{J:eU}(hi:Q6[i]?=some (.pt k sz a b))(e:T.get k=some (.arr sz' [row] fz ex))(f:row[q]?=some (.yl k0))(h0:T.get k0=some (.fo J))(j:j0<N)(l:aU m j0=k0):Hy U T Q6 N m:=by
 intro A g w c d n v y o p;have r:=aiu n hi;let⟨_,_,z,B,C,E,F,G,s,_⟩:=d.dh k _ e r;let⟨x,K,t⟩:=(s 0 row rfl).2 q _ f;have u:g.al k0:=by cases t with|yl h=>exact h
 exact⟨j0,j,l.trans (d.qY _ _ _ _ h0 o u p)⟩
theorem aG.Pl(h:aG P U f args (aw so N) r (aw so' N'))(E:Ad (aU m) N Q6 args)(G:Rb (dL (aU m) N T.nx) r r₀)(hi:yB (aU m) (List.range N)=true)(t:(List.range N).all (λj=>Nat.blt (aU m j) T.nx)=true)(u:jE (aU m) N T so)(l:so.all (λp=>Nat.blt p.1 N)=true)(K:fW (dL (aU m) N T.nx) so' to)(S:(List.range N).all (λj=>(to.map (·.1)).contains (aU m j))=true)(V:(List.range N').all (λj=>(to.map (·.1)).contains (T.nx+j))=true)(W:Hy U T Q6 N m){e:Nat}(he:N'<=e):aG P U f Q6 T r₀ ⟨eD T.get to,T.nx+e⟩:=by
 let⟨n,L⟩:∃n:ao,n=⟨λk=>if k<T.nx then T.get k else none,T.nx⟩:=⟨_,rfl⟩;have get':∀k o,n.get k=some o->k<T.nx/\T.get k=some o:=λk o l=>by rw[L]at l;have l:(if k<T.nx then T.get k else none)=some o:=l;split at l;grind;grind
 have x:n.nx=T.nx:=Z;have y:∀k o,T.get k=some o->k<T.nx->n.get k=some o:=λk o h l=>by rw[L];show(if k<T.nx then T.get k else none)=some o;rw[if_pos l];exact h
 rw[<-x]at G t K;have hM:∀j,j<N->aU m j<T.nx:=λj d=>by have:=nn (bb_.1 t j (aU_.2 d));rwa[x]at this
 have z:=SJ (N':=N') hi t (u.sub y hM l) K S aE λk o l=>Z;have M:=h.ams z E.at.1 (λi a b q s=>by let⟨a',B,h4⟩:=E.at.2 i b s;rw[B]at q;rw[<-oJ_ q];exact h4) G λA g w c Q F9 k J eF fE=>W A g w c (Q.forget Z λj p d C=>y j p d (by have:=Q.al j C;rwa[x]at this)) F9 k J (get' k _ eF).2 fE;refine⟨M.1,λF m' A g c w z u hA=>(M.2 F m' A g c w z (u.forget Z λj p d _=>(get' j p d).2) hA).mono ?_⟩;rintro e' w'⟨v,g',rfl,q,s,B⟩;refine⟨v,g',rfl,q,s.forget Z λj p d C=>?_,B⟩;have jK:j<n.nx+N':=s.al j C;have d:eD T.get to j=some p:=d;show eD n.get to j=some p;by_cases R:j∈to.map (·.1);grind[MT];rw[qg R]at d⊢;refine y j p d ?_;by_cases h5:j<T.nx;grind;exfalso;refine R ?_;have:=bb_.1 V (j-T.nx) (aU_.2 X);rw[show T.nx+(j-T.nx)=j by omega]at this;simpa using this
theorem D.qW{fq:QO}(m:List (Nat×Nat))(to:List (Nat×Option Ob))(a:aG P U f args (aw so N) r (aw so' N'))(h:fO (fq.ev Y.tm) (j8.map (·.ev Y.tm))=some (f,Q6))(b:Ad (aU m) N Q6 args)(c:Rb (dL (aU m) N T.nx) r r₀)(d:jE (aU m) N T so)(g:fW (dL (aU m) N T.nx) so' to)(i:Hy U T Q6 N m)(hi:yB (aU m) (List.range N)=true:=by rfl)(k:(List.range N).all (λj=>Nat.blt (aU m j) T.nx)=true:=by rfl)(l:so.all (λp=>Nat.blt p.1 N)=true:=by rfl)(n:(List.range N).all (λj=>(to.map (·.1)).contains (aU m j))=true:=by rfl)(o:(List.range N').all (λj=>(to.map (·.1)).contains (T.nx+j))=true:=by rfl):D P U false (.call fq j8) Y T r₀ ⟨eD T.get to,T.nx+N'⟩:=D.call h (a.Pl b c hi k d l g n o i (aj_ _)) λe=>Z
theorem bj.qW{fq:QO}(m:List (Nat×Nat))(F:List (Nat×Ob))(to:List (Nat×Option Ob))(w:aG P U f args (aw so N) r (aw so' N'))(h:fO (fq.ev Y.tm) (j8.map (·.ev Y.tm))=some (f,Q6))(x:Ad (aU m) N Q6 args)(b:Rb (dL (aU m) N S.nx) r r₀)(y:gQ S F)(z:∀T,gQ T F->jE (aU m) N T so)(d:fW (dL (aU m) N S.nx) so' to)(A:∀T,gQ T F->Hy U T Q6 N m)(hi:yB (aU m) (List.range N)=true:=by rfl)(g:(List.range N).all (λj=>Nat.blt (aU m j) S.nx)=true:=by rfl)(C:so.all (λp=>Nat.blt p.1 N)=true:=by rfl)(E:(List.range N).all (λj=>(to.map (·.1)).contains (aU m j))=true:=by rfl)(i:(List.range N').all (λj=>(to.map (·.1)).contains (S.nx+j))=true:=by rfl)(G:Nat.ble N' (Kd to true)=true:=by rfl):bj P U B (.call fq j8) Y S r₀ ⟨F,to,true⟩:=by
 intro n o k;let⟨c,u,Q,l,J,a⟩:=my k;refine⟨λR=>by grind[sY,qw],y,λT V s K=>?_⟩;have e:T.nx=S.nx:=K rfl;have v:∀q∈(.call c:Op).operands,(Y.only (d_ o)).ev q=Y.ev q:=λq L=>h_ λt W=>ic Z;have M:fO (fq.ev (Y.only (d_ o)).tm) (j8.map (·.ev (Y.only (d_ o)).tm))=some (f,Q6):=by rw[<-h,J,a,aY,aY,jQ,jQ,v u (show u∈c.operands by simp[Call.operands,l])];congr 1;exact aQ_ λq L=>v q (show q∈c.operands by simp[Call.operands,l];exact .inr Z)
 rw[<-e]at b d g i;rw[ij];exact(D.call (dr:=false) M (w.Pl x b hi g (z T s) C d E i (A T s) (aA_ G)) λe=>Z) n o k
end
section
attribute [local irreducible] aq aG D I
def M9:=aD func17 call17
def nu:=[5,4,2,15,13,14,8,9,10,0,1,34,3,12,51,61,11]
noncomputable def sG(p:Pg)(s:dp)(b:Bool)(a:Int)(ids:List Int):Option (List Gl×Int) :=if b=true/\s.failed=false/\0<=a/\a<p.rs.length then match p.rs[a.toNat]? with|some r=>(match uv s r a ids with|some e=>some (r.body.map (gL e s.fresh),s.fresh+r.vars)|none=>none)|none=>none else none
def Pm(O:Hd)(o:Option (List Gl×Int)):AV:=.aM [dI O (match o with|some x=>x.1|none=>[]),iv (match o with|some x=>x.2|none=>0),.v (.bool o.isSome)]
def kH(o:Option (List Gl×Int)):Pure (Pm O o):=.aM (M_ (a6 _) .v .v)
theorem Oz{a a':AV}{i:Int}{b:Bool}(h:aL S a a'):aL S (.aM [a,.v (.int .i64 i),.v (.bool b)]) (.aM [a',iv i,.v (.bool b)]):=by refine .aM rfl λi x e c d=>?_;match i,c,d with|0,c,d=>cases oJ_ c;cases oJ_ d;exact h|1,c,d=>cases oJ_ c;cases oJ_ d;exact .refl _|2,c,d=>cases oJ_ c;cases oJ_ d;exact .refl _
theorem ow:aL S (.aM [.sl true [],.v (.int .i64 0),.v (.bool false)]) (Pm O none):=by refine Oz ?_;rw[dI,bN];exact aL.wk
theorem SL{a:List Im}(g:∀x∈a,tL 200 ⟨x.n,x.a⟩):∀(hs:List At)(b pre:List Int)(e e':List Bd),(∀h∈hs,tL 200 h)->fC e->g_ 200 e->vX a hs b pre e=some e'->fC e'/\g_ 200 e'/\e'.length<=e.length+200*hs.length
 |[],b,pre,e,e',c,d,f,h=>by grind[vX]|x::hs,[],pre,e,e',c,d,f,h=>by grind[vX]|x::hs,i::b,pre,e,e',c,d,f,h=>by
  rw[vX]at h;split at h;grind;split at h;split at h;grind;rename_i j k l;have m:tL 200 (jT a i).1:=by unfold jT;cases j:a.find? λx=>x.id==i with|none=>exact⟨by rw[dO];trivial,by grind[bC],aJ⟩|some x=>exact g x (cd_ j)
  let⟨n,o,s⟩:=Kr d f m l;let⟨p,q,t⟩:=SL g hs b (pre++[i]) k e' (λh r=>c h Z) n o h;have:=(c x aE).2.1;exact⟨p,q,Z⟩;grind
theorem SM{s:dp}{r:Rl}{k:Int}{ids:List Int}(hs:Jz s)(d:Fs r)(h:uv s r k ids=some e):fC e/\g_ 200 e/\e.length<=200000000:=by unfold uv at h;split at h;split at h;grind;rename_i g f;split at h;cases oJ_ h;let⟨a,b,c⟩:=SL hs.sa _ _ _ _ _ d.ha (λb h=>Z) (λb h=>Z) f;have:=d.hn;exact⟨a,b,Z⟩;grind;grind
theorem aiv(p:Pg)(s:dp)(i:Bool)(c:Int)(ids:List Int)(j:ad U 27 [pg O p,yT O s] (.v (.bool i)))(T:i=true->Jz s/\∀r∈p.rs,Fs r)(sK:p.rs.length<=1099511627776)(uw:ids.length<=1000000):ad U 17 [pg O p,yT O s,iv c,aQ O aH false ids] (Pm O (sG p s i c ids)):=by
 let⟨R,a⟩:=au (sG p s i c ids);rw[<-a];unfold sG at a;have d:=lx (O:=O) p;have l:=nv (O:=O) s;by_cases g:i=true/\s.failed=false/\0<=c/\c<p.rs.length;rotate_left
 ·rw[if_neg g]at a;clear T;let⟨pd,pr⟩:=p;let⟨V,W,sb,sf,sk,sn,n,u⟩:=s;simp only at g;cases i<;>cases u
  ·skip;refine st M9 nu (kH _) ?_;refine og nu (D.bU rfl j (by exact⟨d,l,trivial⟩)) ?_;repeat' first|refine fq ?_
   all_goals first|rw[a];exact ow
  ·skip;refine st M9 nu (kH _) ?_;refine og nu (D.bU rfl j (by exact⟨d,l,trivial⟩)) ?_;repeat' first|refine fq ?_
   all_goals first|rw[a];exact ow
  ·skip;refine st M9 nu (kH _) ?_;refine og nu (D.bU rfl j (by exact⟨d,l,trivial⟩)) ?_;repeat' first|refine cg nu (λw=>?_) λw=>?_|refine lg nu λm hm=>?_|refine fq ?_
   all_goals first|rw[a];exact ow|exfalso;apply g;refine⟨rfl,rfl,X,X⟩
  ·skip;refine st M9 nu (kH _) ?_;refine og nu (D.bU rfl j (by exact⟨d,l,trivial⟩)) ?_;repeat' first|refine fq ?_
   all_goals first|rw[a];exact ow
 rw[if_pos g]at a;obtain⟨rfl,y,pN,lP⟩:=g;let⟨A,mJ⟩:=T rfl;let⟨k,hk⟩:∃k:Nat,c=k:=⟨c.toNat,X⟩;let⟨r,C⟩:∃r,p.rs[k]?=some r:=⟨_,ax_ X⟩;rw[show c.toNat=k by omega,C]at a;simp only at a;have h:=mJ r (as_ C);have E:=ard (U:=U) (O:=O) p s k c r ids hk C h A uw;have ko:=λe=>SM (k:=c) (ids:=ids) (e:=e) A h;let⟨o,K⟩:=au (uv s r c ids);rw[<-K]at E a;simp only[<-K]at ko;let⟨e,b,iD,L,wh⟩:=zB (O:=O) o;rw[iD]at E;have x_:=A.f0;have SP:=A.f1;have Ju:=h.v0;have RW:=h.v1;have M:=h.bn;have F:=h.ba;clear mJ h A K;let⟨pd,pr⟩:=p;let⟨V,W,sb,sf,sk,sn,n,u⟩:=s;let⟨rn,rk,rr,rg,G,rv⟩:=r;simp only at y C x_ SP Ju RW M F a lP E;subst y;cases o with
 |none =>
  cases(wh:b=false);simp only at a;refine st M9 nu (kH _) ?_;refine og nu (D.bU rfl j (by exact⟨d,l,trivial⟩)) ?_;repeat' first|refine og nu (D.bU rfl E (by exact⟨d,dY _,bH _,a6 _,fm _,.v,a8 _,trivial⟩)) ?_|refine cg nu (λw=>?_) λw=>?_|refine lg nu λm hm=>?_|refine fq ?_
  all_goals first|exfalso;simp only at*;omega|rw[a];exact ow
 |some q =>
 cases(wh:b=true);cases(L.symm:q=e);let⟨a1,a2,a3⟩:=ko _ rfl;simp only at a;let⟨B,N⟩:=au (G.map (gL q n));rw[<-N]at a;refine st M9 nu (kH _) ?_;refine og nu (D.bU rfl j (by exact⟨d,l,trivial⟩)) ?_;repeat' first|refine og nu (D.bU rfl E (by exact⟨d,dY _,bH _,a6 _,fm _,.v,a8 _,trivial⟩)) ?_|refine cg nu (λw=>?_) λw=>?_|refine lg nu λm hm=>?_|refine fq ?_
 all_goals first|exfalso;simp only at*;omega|skip
 refine og nu (D.bw hk C) ?_;refine cW (τ:=List Gl×Nat) 3 4 [] (λp=>[(5,.pt 1 8 0 0),(11,a_ O q),(13,.pt 2 6 0 0),(14,.gr 3 3 p.2.2),(15,.v (.int .i64 p.1))]) [] (λp=>[(1,.arr 8 [CN O ⟨V,W,sb,sf,sk,sn,n,false⟩] 0 true),(2,.arr 6 [lV O ⟨rn,rk,rr,rg,G,rv⟩] 0 true),(3,.arr 3 (O.h (List.map (sQ O)) p.2.1) 0 false)]) G.length (λz p=>B=p.2.1++(G.drop z).map (gL q n)/\p.2.2=p.2.1.length/\p.2.1.length=z) ([],0) ⟨by simpa using N,rfl,rfl⟩ ?_;rintro zi z⟨MP,len⟩hz Fv⟨t,P,J⟩;simp only at hz t P J;clear N;refine H nu ?_;refine lg nu λq4 hq4=>?_;by_cases az:z<G.length;rotate_left;refine cn (λQ=>?_) λQ=>?_;omega;refine H nu ?_;refine xG nu ?_;refine ag nu λv hv=>?_;refine fq ?_;rw[aP_ X,aY_,aI_]at t;rw[a,t,<-hv];exact Oz (aL.grow rfl P);refine cn (λQ=>?_) λQ=>?_;rotate_left;omega;let⟨x,hx,aS⟩:=aC az;have Fc:=F x (aZ hx);have g:=Jy (U:=U) (O:=O) (env:=q) (fr:=n) X x_ SP x (aD_ Fc.1.2.1 aJ) Fc.2;rw[aS,aK_]at t;let⟨S,hX⟩:=au (gL q n x);rw[<-hX]at g t;let⟨xo,xn,xa⟩:=x;refine H nu ?_;refine og nu (D.bw hz hx) ?_;apply bh nu g;refine I.fT (f:=sQ O) S rfl rfl rfl P (λ_=>rfl) rfl rfl rfl X λep fZ h1 h2=>?_;refine H nu ?_;refine ag nu λi3 eu=>?_;exact cO (i3,ep,fZ) [(3,4)] (z+1) ⟨by simp only;rw[t,h1];simp,h2,by simp only;rw[h1,ay_,J];rfl⟩
structure Mv where
 k:Int
 g:Int
 r:Int
 ids:List Int
def OA(O:Hd)(x:Mv):List AV:=[iv x.k,iv x.g,iv x.r,aQ O aH false x.ids]
theorem Ks(x:Mv):∀a∈OA O x,Pure a:=by simp[OA,a8,Pure.v,iv]
end
theorem oy{e k:Int}(h:bG e k=0):e=0/\k=0:=by unfold bG at h;split at h;exact⟨by assumption,h⟩;exact absurd h (by assumption)
theorem w_{b:Bool}{e:Int}(a:e≠0)(h:cX b e=0):b=true:=by unfold cX at h;split at h;assumption;exact absurd h a
theorem aaC:∀(vs:List Int)(n:Int)(k:Int->Int),Ap vs n k=0->∃m,k m=0/\n<=m/\m<=n+vs.length|[],n,k,h=>⟨n,h,bs_ _,aE⟩|v::vs,n,k,h=>by rw[Ap]at h;split at h;let⟨m,a,b,c⟩:=aaC vs _ k h;refine⟨m,a,?_,?_⟩;split at b<;>omega;rw[aH_];split at c<;>omega;cases h
mutual theorem aaD{v:Int}:∀t:Tm,e_ t->(nK v t↔v∈eN t) |⟨k,i,n,a⟩,h=>by rw[e_]at h;rw[nK,eN];by_cases b:k=1;rw[if_pos b,if_pos b,ae_];exact eq_comm;rw[if_neg b]at h;rw[if_neg b,if_neg b];by_cases c:k=2;rw[if_pos c];exact EA a h.1;rw[if_neg c,h.2.resolve_left c,jq];simp;theorem EA{v:Int}:∀l:List Tm,fy l->(jq v l↔v∈a7 l)|[],h=>by rw[jq,a7];simp|x::l,h=>by rw[fy]at h;rw[jq,a7,aO_,aaD x h.1,EA l h.2];end
theorem EB{v:Int}(h:fy l):v∈varsOf l↔jq v l:=by unfold varsOf;rw[uP,EA l h];simp
theorem sH{x:At}(h:fw x=true)(a:dO x.a):fy x.a/\lq x.a/\tQ x.a/\pe x.a/\bC x.a<=200:=by unfold fw at h;rw[aw_]at h;exact La h.2 a
theorem sI{x:Gl}(h:dw x=true)(a:dO x.a):fy x.a/\lq x.a/\tQ x.a/\pe x.a/\bC x.a<=200:=by unfold dw at h;split at h;exact sH (x:=⟨x.n,x.a⟩) h a;rw[aw_]at h;exact La h.2 a
theorem OB{ds:List Dc}{r:Rl}(h:oW ds r=0):(CX r=true/\(∀x∈r.aP,fw x=true)/\(∀x∈r.rem,fw x=true)/\(∀g∈r.guard,dw g=true)/\∀g∈r.body,dw g=true)/\(∃n,r.vars=n/\0<=n/\n<=(vw r++Bu r).length)/\∀v∈tw [r.guard],v∈vw r:=by unfold oW O_ xu at h;let⟨c,h⟩:=oy h;let⟨d,h⟩:=oy h;let⟨e,h⟩:=oy h;let⟨f,h⟩:=oy h;let⟨i,h⟩:=oy h;refine⟨⟨w_ aJ c,λx a=>w_ aJ (lL d x a),λx a=>w_ aJ (lL e x a),λx a=>w_ aJ (lL f x a),λx a=>w_ aJ (lL i x a)⟩,?_⟩;unfold xq at h;let⟨m,h,j,o⟩:=aaC _ _ _ h;let⟨b,h⟩:=oy h;have b:=w_ aJ b;rw[decide_eq_true_eq]at b;refine⟨⟨m,b,j,X⟩,λv k=>?_⟩;unfold D8 Ld xp O9 Is at h;let⟨_,h⟩:=oy h;let⟨_,h⟩:=oy h;let⟨_,h⟩:=oy h;let⟨_,h⟩:=oy h;let⟨_,h⟩:=oy h;let⟨_,h⟩:=oy h;let⟨_,h⟩:=oy h;let⟨l,_⟩:=oy h;have:=w_ aJ (lL l v k);simpa using this
theorem LU{ds:List Dc}:∀(l:List Rl)(k:Nat),(vI ds l k).2=0->∀r∈l,oW ds r=0|[],k,h,r,a=>by cases a|x::l,k,h,r,a=>by rw[vI]at h;split at h;rename_i b;rcases al_.1 a with rfl|a;exact b;exact LU l _ h r a;rename_i b;exact absurd h b
theorem Xt{p:Pg}(h:(rH p).2=0):∀r∈p.rs,oW p.ds r=0:=by unfold rH at h;split at h;exact LU _ _ h;rename_i a;exact absurd h a
end Go.Proofs.YtbdcmpknicjopaaGreat
