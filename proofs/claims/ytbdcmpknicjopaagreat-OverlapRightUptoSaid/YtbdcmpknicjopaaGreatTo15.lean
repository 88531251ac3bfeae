import Derived.Test.YtbdcmpknicjopaaGreatTo14
namespace Go.Proofs.YtbdcmpknicjopaaGreat
set_option linter.all false
set_option maxRecDepth 100000
open Go.RowKit Proofs.Tryz
variable{O:Hd}{U:World}{a:List Tm}
section
attribute [local irreducible] aq aG D I
def apr:=aD func188 call188
def gT:=[3,0,6,5,4,1,16,27]
def aps:=aD func187 call187
def Ai:=[4,0,3,2,8]
def apt:=aD func115 call115
def aj5:=[2,0,1]
def apu:=aD func114 call114
def aj6:=[2,0,1]
def apv:=aD func116 call116
def aj7:=[2,0,1]
theorem mZ:∀(l m s:List Int),bV s (l++m)=bV s l++bV (s++bV s l) m|[],m,s=>by simp[bV]|x::l,m,s=>by rw[aX_,bV,bV];split;exact mZ l m s;rw[mZ l m (s++[x])];simp
theorem Cv.ahA{U:World}{n:Nat}{Y:AA}{S:ao}(o:Ob):Cv U n Y S Y (S.new o):=by
 intro A g a w c r;have key:∀k p,(S.new o).get k=some p->g.al k->S.get k=some p:=λk p b d=>by have u:=c.al k d;have b:bK S.get S.nx (some o) k=some p:=b;rwa[aR _ _ X]at b
 refine⟨g,⟨c.base,c.up,c.lo,λk b=>cr_ (c.al k b),λk p b d=>c.dh k p (key k p b d) d,λi j p q s h l f e=>c.inj i j p q (key i p s l) (key j q h f) l f e,c.dU,c.uA,λk J b d=>c.l9 k J (key k _ b d) d,λk J j p b d h f=>c.oZ k J j p (key k _ b d) d (key j p h f) f,λj k J t h b f m=>c.qY j k J t (key j _ h f) (key k _ b m) f m⟩,r,Ext.refl ..⟩
def tu(O:Hd)(MP:List Int):Ob:=.arr 1 (O.h (List.map aH) MP) 0 false
theorem lU{s:List Int}:∀row∈O.h (List.map aH) s,∀a∈row,Pure a:=by rw[O.eq];intro row b a c;obtain⟨x,_,rfl⟩:=aE_.1 b;cases ae_.1 c;exact .v
theorem Y4(x:Tm):∀(MP:List Int)(len:Nat),x.ok->len=MP.length->MP.length+(eN x).length<=1099511627776->∃r,r=(MP++bV MP (eN x)).length /\aG prog U 188 [.gr 0 1 len,tm O x] (aw [(0,tu O MP)] 1) (.gr 1 1 r) (aw [(1,tu O (MP++bV MP (eN x)))] 2):=by
 refine Tm.ind (p:=λx=>∀(MP:List Int)(len:Nat),x.ok->len=MP.length->MP.length+(eN x).length<=1099511627776->∃r,r=(MP++bV MP (eN x)).length /\aG prog U 188 [.gr 0 1 len,tm O x] (aw [(0,tu O MP)] 1) (.gr 1 1 r) (aw [(1,tu O (MP++bV MP (eN x)))] 2)) ?_ x;intro J i n a S MP len hx Hf T;let⟨dZ,fE,Q⟩:=hx.out;dsimp only at dZ fE Q;let⟨res,g⟩:=au (MP++bV MP (eN ⟨J,i,n,a⟩));let⟨r,pY⟩:=au res.length;rw[<-g];refine⟨r,pY,?_⟩;have F:=Mr (U:=U) (O:=O) ⟨J,i,n,a⟩;have V:=ajo (U:=U) (O:=O) MP i X;rw[qH]at F;dsimp only at F;rw[eN]at g T;let⟨B,W⟩:=au (MP.contains i);rw[<-W]at V;let⟨b,s⟩:=au (if J=2 then a else[]);rw[<-s]at F;have hl:b.length<=1099511627776:=by rw[s];split;omega;simp
 have G:∀y∈b,y∈a:=by intro y hy;rw[s]at hy;split at hy;grind;grind
 have R:(if J=2 then a7 a else[])=a7 b:=by rw[s];split<;>rfl
 refine sc 1 2 apr ?_;refine H gT ?_;by_cases hk:J=1
 ·subst hk;rw[if_pos rfl,bV,bV]at g;rw[if_pos rfl,bf_]at T;rw[if_neg aJ]at s R;have UT:a7 b=[]:=by rw[s,a7]
  have xH:(a7 b).length=0:=by rw[UT];rfl
  rw[<-W]at g;clear s R;repeat' first|refine bg gT (D.tU rfl V ⟨a8 _,.v,trivial⟩ .v ⟨aL.grow rfl Hf,.refl _,trivial⟩) (λ_=>?_) λ_=>?_|apply bh gT F|exact dV e|refine cg gT (λe=>?_) λe=>?_
  ·rw[if_pos (by assumption)]at g;have t:res=MP++bV MP (a7 b):=by rw[g,UT,bV]
   refine cW (τ:=List Int×Nat) 3 4 [(3,0)] (λp=>[(0,.gr 3 1 p.2.2),(5,tl O b),(6,.v (.int .i64 p.1))]) [] (λp=>[(3,tu O p.2.1)]) b.length (λk p=>res=p.2.1++bV p.2.1 (a7 (b.drop k))/\p.2.2=p.2.1.length/\p.2.1.length+(a7 (b.drop k)).length<=1099511627776) (MP,len) ⟨by simpa using t,by simp only;omega,by simp only[bN_];first|omega ⟩ ?_;rintro j k⟨d,u⟩v eF⟨c,w,z⟩;simp only at v c w z;clear t g;refine H gT ?_;by_cases K:k<b.length
   ·let⟨y,h,A⟩:=aC K;rw[j9 A,mZ]at c;rw[j9 A,ay_]at z;let⟨L,C,E⟩:=S y (G y (aZ h)) d u (Q.mem y (G y (aZ h))) w X;have M:=lQ (eN y) d;let⟨o,q⟩:=au (d++bV d (eN y));rw[<-bt_,<-q]at c;rw[<-q]at C E;have N:o.length<=d.length+(eN y).length:=by rw[q,ay_];omega
    repeat' first|refine og gT (D.ind rfl rfl (cG (l:=b) v h) cH) ?_|refine og gT (D.nZ (m:=[(0,3)]) (to:=[(3,none),(5,some (tu O o))]) E rfl ⟨Rn.gr rfl rfl,Rn.pure (bM _),trivial⟩ (Rb.gr rfl) rfl rfl ⟨⟨_,rfl,lO.pure lU⟩,trivial⟩ ⟨⟨1,_,rfl,rfl,mW.pure lU⟩,trivial⟩ rfl (by repeat first|exact jn rfl) (.inr rfl)) ?_|refine cg gT (λe=>?_) λe=>?_|refine lg gT λm P=>?_|refine ag gT λ_ _=>?_|refine xG gT ?_|refine fq ?_
    all_goals first|omega|exact cO (_,o,L) [(3,5)] (k+1) ⟨c,C,Z⟩
   ·rw[ar_ X,a7,bV,aI_]at c;repeat' first|refine cg gT (λe=>?_) λe=>?_|refine lg gT λm P=>?_|refine xG gT ?_|refine fq ?_
    all_goals first|omega|skip
    subst c;cases(X:u=r);exact⟨[(1,3)],.jz rfl rfl,⟨.inl ⟨_,rfl,.same uc⟩,trivial⟩,rfl⟩
  ·rw[if_neg (by simp_all)]at g;refine I.app (x:=i) (f:=aH) rfl rfl rfl Hf (λ_=>rfl) rfl rfl rfl rfl X λs' auK j6 azD=>?_;refine H gT ?_;repeat' first|apply bh gT F
   have t:res=s'++bV s' (a7 b):=by rw[g,j6,UT,bV];simp[bV]
   refine cW (τ:=List Int×Nat) 3 4 [(3,2)] (λp=>[(0,.gr 3 1 p.2.2),(5,tl O b),(6,.v (.int .i64 p.1))]) [] (λp=>[(3,tu O p.2.1)]) b.length (λk p=>res=p.2.1++bV p.2.1 (a7 (b.drop k))/\p.2.2=p.2.1.length/\p.2.1.length+(a7 (b.drop k)).length<=1099511627776) (s',auK) ⟨by simpa using t,by simp only;omega,by simp only[bN_];first|rw[j6];simp only[ay_,bf_];omega⟩ ?_;rintro j k⟨d,u⟩v eF⟨c,w,z⟩;simp only at v c w z;clear t g;refine H gT ?_;by_cases K:k<b.length
   ·let⟨y,h,A⟩:=aC K;rw[j9 A,mZ]at c;rw[j9 A,ay_]at z;let⟨L,C,E⟩:=S y (G y (aZ h)) d u (Q.mem y (G y (aZ h))) w X;have M:=lQ (eN y) d;let⟨o,q⟩:=au (d++bV d (eN y));rw[<-bt_,<-q]at c;rw[<-q]at C E;have N:o.length<=d.length+(eN y).length:=by rw[q,ay_];omega
    repeat' first|refine og gT (D.ind rfl rfl (cG (l:=b) v h) cH) ?_|refine og gT (D.nZ (m:=[(0,3)]) (to:=[(3,none),(5,some (tu O o))]) E rfl ⟨Rn.gr rfl rfl,Rn.pure (bM _),trivial⟩ (Rb.gr rfl) rfl rfl ⟨⟨_,rfl,lO.pure lU⟩,trivial⟩ ⟨⟨1,_,rfl,rfl,mW.pure lU⟩,trivial⟩ rfl (by repeat first|exact jn rfl) (.inr rfl)) ?_|refine cg gT (λe=>?_) λe=>?_|refine lg gT λm P=>?_|refine ag gT λ_ _=>?_|refine xG gT ?_|refine fq ?_
    all_goals first|omega|exact cO (_,o,L) [(3,5)] (k+1) ⟨c,C,Z⟩
   ·rw[ar_ X,a7,bV,aI_]at c;repeat' first|refine cg gT (λe=>?_) λe=>?_|refine lg gT λm P=>?_|refine xG gT ?_|refine fq ?_
    all_goals first|omega|skip
    subst c;cases(X:u=r);exact⟨[(1,3)],.jz rfl rfl,⟨.inl ⟨_,rfl,.same uc⟩,trivial⟩,rfl⟩
 ·rw[if_neg hk,R]at g T;clear s R V W;repeat' first|apply bh gT F|refine cg gT (λe=>?_) λe=>?_
  exact absurd Z hk;have t:res=MP++bV MP (a7 b):=by exact g
  refine cW (τ:=List Int×Nat) 3 4 [(3,0)] (λp=>[(0,.gr 3 1 p.2.2),(5,tl O b),(6,.v (.int .i64 p.1))]) [] (λp=>[(3,tu O p.2.1)]) b.length (λk p=>res=p.2.1++bV p.2.1 (a7 (b.drop k))/\p.2.2=p.2.1.length/\p.2.1.length+(a7 (b.drop k)).length<=1099511627776) (MP,len) ⟨by simpa using t,by simp only;omega,by simp only[bN_];first|omega ⟩ ?_;rintro j k⟨d,u⟩v eF⟨c,w,z⟩;simp only at v c w z;clear t g;refine H gT ?_;by_cases K:k<b.length
  ·let⟨y,h,A⟩:=aC K;rw[j9 A,mZ]at c;rw[j9 A,ay_]at z;let⟨L,C,E⟩:=S y (G y (aZ h)) d u (Q.mem y (G y (aZ h))) w X;have M:=lQ (eN y) d;let⟨o,q⟩:=au (d++bV d (eN y));rw[<-bt_,<-q]at c;rw[<-q]at C E;have N:o.length<=d.length+(eN y).length:=by rw[q,ay_];omega
   repeat' first|refine og gT (D.ind rfl rfl (cG (l:=b) v h) cH) ?_|refine og gT (D.nZ (m:=[(0,3)]) (to:=[(3,none),(5,some (tu O o))]) E rfl ⟨Rn.gr rfl rfl,Rn.pure (bM _),trivial⟩ (Rb.gr rfl) rfl rfl ⟨⟨_,rfl,lO.pure lU⟩,trivial⟩ ⟨⟨1,_,rfl,rfl,mW.pure lU⟩,trivial⟩ rfl (by repeat first|exact jn rfl) (.inr rfl)) ?_|refine cg gT (λe=>?_) λe=>?_|refine lg gT λm P=>?_|refine ag gT λ_ _=>?_|refine xG gT ?_|refine fq ?_
   all_goals first|omega|exact cO (_,o,L) [(3,5)] (k+1) ⟨c,C,Z⟩
  ·rw[ar_ X,a7,bV,aI_]at c;repeat' first|refine cg gT (λe=>?_) λe=>?_|refine lg gT λm P=>?_|refine xG gT ?_|refine fq ?_
   all_goals first|omega|skip
   subst c;cases(X:u=r);exact⟨[(1,3)],.jz rfl rfl,⟨.inl ⟨_,rfl,.same uc⟩,trivial⟩,rfl⟩
theorem DZ(l:List Tm)(B:l.length<=1099511627776)(s:dO l)(t:(a7 l).length<=1099511627776):ad U 187 [tl O l] (aQ O aH false (varsOf l)):=by
 let⟨res,c⟩:=au (varsOf l);rw[<-c];unfold varsOf at c;refine st aps Ai (a8 _) ?_;refine cW (τ:=List Int×Nat) 0 1 [] (λp=>[(0,tl O l),(3,.gr 0 1 p.2.2),(4,.v (.int .i64 p.1))]) [] (λp=>[(0,tu O p.2.1)]) l.length (λk p=>res=p.2.1++bV p.2.1 (a7 (l.drop k))/\p.2.2=p.2.1.length/\p.2.1.length+(a7 (l.drop k)).length<=1099511627776) ([],0) ⟨by simpa using c,rfl,by simpa using t⟩ ?_;rintro j k⟨b,u⟩h E⟨a,d,i⟩;simp only at h a d i;clear c;refine H Ai ?_;by_cases v:k<l.length
 ·let⟨y,n,o⟩:=aC v;rw[j9 o,mZ]at a;rw[j9 o,ay_]at i;let⟨w,q,r⟩:=Y4 (U:=U) (O:=O) y b u (s.mem y (aZ n)) d X;have x:=lQ (eN y) b;let⟨e,f⟩:=au (b++bV b (eN y));rw[<-bt_,<-f]at a;rw[<-f]at q r;have z:e.length<=b.length+(eN y).length:=by rw[f,ay_];omega
  repeat' first|refine og Ai (D.ind rfl rfl (cG (l:=l) h n) cH) ?_|refine og Ai (D.nZ (m:=[(0,0)]) (to:=[(0,none),(2,some (tu O e))]) r rfl ⟨Rn.gr rfl rfl,Rn.pure (bM _),trivial⟩ (Rb.gr rfl) rfl rfl ⟨⟨_,rfl,lO.pure lU⟩,trivial⟩ ⟨⟨1,_,rfl,rfl,mW.pure lU⟩,trivial⟩ rfl (by repeat first|exact jn rfl) (.inr rfl)) ?_|refine cg Ai (λg=>?_) λg=>?_|refine lg Ai λm A=>?_|refine ag Ai λ_ _=>?_|refine xG Ai ?_|refine fq ?_
  all_goals first|omega|exact cO (_,e,w) [(0,2)] (k+1) ⟨a,q,Z⟩
 ·rw[ar_ X,a7,bV,aI_]at a;repeat' first|refine cg Ai (λg=>?_) λg=>?_|refine lg Ai λm A=>?_|refine xG Ai ?_|refine fq ?_
  all_goals first|omega|skip
  subst a;exact aL.grow rfl d
theorem MD(x:Tm)(e:x.ok)(f:(eN x).length<=1099511627776):ad U 115 [tm O x] (aQ O aH false (varsOf [x])):=by let⟨g,c,d⟩:=Y4 (U:=U) (O:=O) x [] 0 e rfl Z;let⟨res,b⟩:=au (varsOf [x]);rw[<-b];unfold varsOf at b;rw[a7,a7,aI_]at b;rw[aS_,<-b]at c d;let⟨k,i,n,a⟩:=x;refine st apt aj5 (a8 _) ?_;refine I.Aj (Cv.ahA (tu O [])) ?_;refine og aj5 (D.nZ (m:=[(0,1)]) (to:=[(1,none),(3,some (tu O res))]) d rfl ⟨Rn.nil,Rn.pure (bM (O:=O) ⟨k,i,n,a⟩),trivial⟩ (Rb.gr rfl) rfl rfl ⟨⟨_,rfl,lO.pure lU⟩,trivial⟩ ⟨⟨1,_,rfl,rfl,mW.pure lU⟩,trivial⟩ rfl (by repeat first|exactλ_ _ h=>Z|refine o_ ?_ rfl) (.inr rfl)) ?_;refine fq ?_;exact aL.grow rfl c
theorem WE(x:At)(c:x.a.length<=1099511627776)(d:dO x.a)(e:(a7 x.a).length<=1099511627776):ad U 114 [at_ O x] (aQ O aH false (varsOf x.a)):=by
 have b:=DZ (U:=U) (O:=O) x.a c d e;let⟨n,a⟩:=x;dsimp only at b⊢;let⟨R,f⟩:=au (varsOf a);rw[<-f]at b⊢;refine st apu aj6 (a8 _) ?_;repeat' first|apply bh aj6 b|refine fq ?_
 exact aL.of_eq rfl
theorem K2(x:Gl)(c:x.a.length<=1099511627776)(d:dO x.a)(e:(a7 x.a).length<=1099511627776):ad U 116 [gl O x] (aQ O aH false (varsOf x.a)):=by
 have b:=DZ (U:=U) (O:=O) x.a c d e;let⟨o,n,a⟩:=x;dsimp only at b⊢;let⟨R,f⟩:=au (varsOf a);rw[<-f]at b⊢;refine st apv aj7 (a8 _) ?_;repeat' first|apply bh aj7 b|refine fq ?_
 exact aL.of_eq rfl
def apw:=aD func184 call184
def kT:=[3,0,5,4,2,11,23,7,35]
def apx:=aD func111 call111
def oG:=[3,0,2,7,50]
def apy:=aD func113 call113
def qN:=[7,0,6,13,1,21,2,9,31]
def auL:=aD func54 call54
def g54:=[6,0,3,1,2]
def auM:=aD func53 call53
def Y5:=[3,4,0,1,12,2]
def MF(x:Bd):Bool:=decide (0<=x.v)&&decide (x.v<=1048576)&&cB x.t
def Qu(p x:Bd):Bool:=decide (p.v<x.v)
def kC(b:List Bd)(v:Int):Bool:=b.any λx=>x.v==v
def vj(b:List Bd):Bool:=b.all λx=>(varsOf [x.t]).all λv=>!kC b v
def nc(b:List Bd):Bool:=lj MF Qu none b&&vj b
theorem NO(b:List Bd)(v:Int):(gG b v).2=kC b v:=by grind[gG,kC]
theorem p_(x:Tm):(eN x).length<=dD x:=by
 refine Tm.ind (p:=λx=>(eN x).length<=dD x) ?_ x;intro k i n a b;have key:∀l:List Tm,(∀y∈l,(eN y).length<=dD y)->(a7 l).length<=bF l:=by intro l;induction l with|nil=>intro _;simp[a7,bF]|cons y l c =>intro h;rw[a7,bF,ay_];have d:=h y aE;have e:=c λz f=>h z Z;omega
 have g:=key a b;rw[eN,dD];split;grind;grind
theorem xm:∀l:List Tm,(a7 l).length<=bF l|[]=>by simp[a7,bF]|x::l=>by rw[a7,bF,ay_];have a:=p_ x;have b:=xm l;omega
theorem vk(l:List Tm):(varsOf l).length<=bF l:=aD_ (lQ _ _) (xm l)
theorem ahB(b:List Bd)(t:b.length<=1099511627776)(u:∀x∈b,x.ok):ad U 184 [a_ O b] (.v (.bool (vj b))):=by
 let⟨R,h⟩:=au (vj b);rw[<-h];unfold vj at h;refine st apw kT .v ?_;refine bL 0 0 [] (λi=>[(0,a_ O b),(3,.v (.int .i64 i))]) [] (λ_=>[]) b.length (λk=>R=(b.drop k).all λx=>(varsOf [x.t]).all λv=>!kC b v) Z λi k w L d=>?_;clear h;refine H kT ?_;by_cases y:k<b.length
 ·let⟨x,n,z⟩:=aC y;let⟨A,B⟩:=u x (aZ n);rw[z,aL_]at d;have o:=MD (U:=U) (O:=O) x.t A (aD_ (p_ _) B);have C:(varsOf [x.t]).length<=1099511627776:=by have E:=vk [x.t];rw[bF,bF]at E;omega
  let⟨e,F⟩:=au (varsOf [x.t]);rw[<-F]at d o C;let⟨M,N,P,Q,S⟩:=x;repeat' first|refine og kT (D.bw w n) ?_|apply bh kT o|refine cg kT (λa=>?_) λa=>?_|refine lg kT λm f=>?_|refine xG kT ?_|refine fq ?_
  ·refine bL 0 0 [] (λj=>[(0,a_ O b),(3,.v (.int .i64 i)),(4,aQ O aH false e),(5,.v (.int .i64 j))]) [] (λ_=>[]) e.length (λq=>R=(((e.drop q).all λv=>!kC b v)&&(b.drop (k+1)).all λx=>(varsOf [x.t]).all λv=>!kC b v)) Z λj q r T c=>?_;clear d;refine H kT ?_;by_cases G:q<e.length
   ·let⟨v,s,J⟩:=aC G;rw[J,aL_,<-NO]at c;have g:=Qq (U:=U) (O:=O) b v t;let⟨⟨⟨V,W,ln,la⟩,K⟩,l⟩:∃p,p=gG b v:=⟨_,rfl⟩;rw[<-l]at g c;dsimp only at g c;cases K
    ·skip;repeat' first|refine og kT (D.bw r s) ?_|apply bh kT g|refine cg kT (λa=>?_) λa=>?_|refine lg kT λm f=>?_|refine ag kT λ_ _=>?_|refine xG kT ?_
     all_goals first|omega|refine I.bu _ [] ?_ ?_ cq;grind;omega
    ·skip;repeat' first|refine og kT (D.bw r s) ?_|apply bh kT g|refine cg kT (λa=>?_) λa=>?_|refine lg kT λm f=>?_|refine ag kT λ_ _=>?_|refine xG kT ?_|refine rG kT ?_|refine fq ?_
     all_goals first|omega|refine aO ?_;rw[c];rfl
   ·rw[ar_ X,bn_,az_]at c;repeat' first|refine cg kT (λa=>?_) λa=>?_|refine lg kT λm f=>?_|refine ag kT λ_ _=>?_|refine xG kT ?_
    all_goals first|omega|exact cw _ [] (k+1) c
  omega
 ·skip;repeat' first|refine cg kT (λa=>?_) λa=>?_|refine lg kT λm f=>?_|refine xG kT ?_|refine fq ?_
  all_goals first|omega|rw[d,ar_ X];exact aO rfl
theorem Y6(b:List Bd)(q:b.length<=1099511627776)(n:∀x∈b,x.ok):ad U 111 [a_ O b] (.v (.bool (nc b))):=by
 have c:=ahB (U:=U) (O:=O) b q n;let⟨R,f⟩:=au (nc b);rw[<-f];unfold nc at f;let⟨r,s⟩:=au (vj b);rw[<-s]at f c;refine st apx oG .v ?_;refine I.eH (σ:=Int) 0 0 [] (λi=>[(0,a_ O b),(3,.v (.int .i64 i))]) [] (λ_=>[]) (λi=>∃(k:Nat) (h:Option Bd),i=k/\k<=b.length/\R=(lj MF Qu h (b.drop k)&&r)/\CM b k h) (λi=>b.length-i.toNat) 0 ⟨0,none,rfl,aE,Z,.inl ⟨rfl,rfl⟩⟩ rfl cq ?_;rintro i⟨k,h,o,L,a,t⟩;clear f;refine H oG ?_;by_cases u:k<b.length
 ·let⟨x,j,v⟩:=aC u;let⟨w,y⟩:=n x (aZ j);rw[v,j_]at a;have g:=DJ (U:=U) (O:=O) x.t w y;let⟨d,z,A,B,C⟩:=x;dsimp only at g;rw[MF]at a;dsimp only at a;let⟨V,E⟩:=au (cB ⟨z,A,B,C⟩);rw[<-E]at g a;rcases t with⟨rfl,rfl⟩|⟨⟨F,M,N,P,Q⟩,G,J,rfl⟩
  ·simp only[Bi,bC_]at a;repeat' first|refine og oG (D.bw o j) ?_|refine bg oG (pl g) (λ_=>?_) λ_=>?_|refine cg oG (λe=>?_) λe=>?_|refine lg oG λm p=>?_|refine ag oG λ_ _=>?_|refine xG oG ?_|refine rG oG ?_|refine fq ?_
   all_goals first|omega|refine aO ?_;rw[a,decide_eq_false (show¬0<=d by omega)];rfl|refine aO ?_;rw[a,decide_eq_false (show¬d<=1048576 by omega)];simp;done|refine aO ?_;rw[a,show V=false by grind];simp;done|refine I.bu _ [] ?_ ?_ cq;grind[kc];omega
  ·simp only[Bi,Qu]at a;repeat' first|refine og oG (D.bw o j) ?_|refine og oG (D.ind rfl rfl (du (l:=b) (k:=k-1) X J) (cJ λ_=>rfl)) ?_|refine bg oG (pl g) (λ_=>?_) λ_=>?_|refine cg oG (λe=>?_) λe=>?_|refine lg oG λm p=>?_|refine ag oG λ_ _=>?_|refine xG oG ?_|refine rG oG ?_|refine fq ?_
   all_goals first|omega|refine aO ?_;rw[a,decide_eq_false (show¬0<=d by omega)];rfl|refine aO ?_;rw[a,decide_eq_false (show¬d<=1048576 by omega)];simp;done|refine aO ?_;rw[a,decide_eq_false (show¬F<d by omega)];simp;done|refine aO ?_;rw[a,show V=false by grind];simp;done|refine I.bu _ [] ?_ ?_ cq;grind[kc];omega
 ·rw[ar_ X,sv,az_]at a;repeat' first|apply bh oG c|refine cg oG (λe=>?_) λe=>?_|refine lg oG λm p=>?_|refine xG oG ?_|refine fq ?_
  all_goals first|omega|rw[a];exact aO rfl
def ju(vs:List Int)(fresh:Int)(b:List Bd):Bool:=vs.all λv=>decide (v<fresh) &&!kC b v
theorem Qx(vs:List Int)(fresh:Int)(b:List Bd)(l:b.length<=1099511627776)(r:vs.length<=1099511627776):ad U 113 [aQ O aH false vs,iv fresh,a_ O b] (.v (.bool (ju vs fresh b))):=by
 let⟨R,e⟩:=au (ju vs fresh b);rw[<-e];unfold ju at e;refine st apy qN .v ?_;refine bL 0 0 [] (λi=>[(0,aQ O aH false vs),(1,.v (.int .i64 fresh)),(2,a_ O b),(7,.v (.int .i64 i))]) [] (λ_=>[]) vs.length (λk=>R=(vs.drop k).all λv=>decide (v<fresh) &&!kC b v) Z λi k g s a=>?_;clear e;refine H qN ?_;by_cases n:k<vs.length
 ·let⟨v,h,o⟩:=aC n;rw[o,aL_,<-NO]at a;have d:=Qq (U:=U) (O:=O) b v l;let⟨⟨⟨t,u,w,x⟩,q⟩,f⟩:∃p,p=gG b v:=⟨_,rfl⟩;rw[<-f]at d a;dsimp only at d a;cases q
  ·skip;repeat' first|refine og qN (D.bw g h) ?_|apply bh qN d|refine cg qN (λc=>?_) λc=>?_|refine lg qN λm j=>?_|refine ag qN λ_ _=>?_|refine xG qN ?_|refine rG qN ?_|refine fq ?_
   all_goals first|omega|refine aO ?_;rw[a,decide_eq_false (show¬v<fresh by omega)];rfl|rw[decide_eq_true (show v<fresh by omega)]at a;exact cw _ [] (k+1) Z
  ·skip;repeat' first|refine og qN (D.bw g h) ?_|apply bh qN d|refine cg qN (λc=>?_) λc=>?_|refine lg qN λm j=>?_|refine xG qN ?_|refine rG qN ?_|refine fq ?_
   all_goals first|omega|refine aO ?_;rw[a];simp;done
 ·skip;repeat' first|refine cg qN (λc=>?_) λc=>?_|refine lg qN λm j=>?_|refine xG qN ?_|refine fq ?_
  all_goals first|omega|rw[a,ar_ X];exact aO rfl
def Gf(x:Gl):Prop:=pM x.a/\x.n.size<=1099511627776
def wM(h:pM a):(a7 a).length<=1099511627776:=aD_ (xm a) h.2
def uG(h:pM a):(varsOf a).length<=1099511627776:=aD_ (vk a) h.2
theorem UU(g:Gl)(fresh:Int)(b:List Bd)(i:b.length<=1099511627776)(c:Gf g):ad U 54 [gl O g,iv fresh,a_ O b] (.v (.bool (ju (varsOf g.a) fresh b))):=by
 have e:=K2 (U:=U) (O:=O) g c.1.len c.1.1 (wM c.1);have d:=Qx (U:=U) (O:=O) (varsOf g.a) fresh b i (uG c.1);let⟨R,f⟩:=au (ju (varsOf g.a) fresh b);rw[<-f]at d⊢;let⟨j,h⟩:=au (varsOf g.a);rw[<-h]at e d;clear f h c;let⟨o,n,a⟩:=g;refine st auL g54 .v ?_;repeat' first|apply bh g54 e|apply bh g54 d|refine fq ?_
 exact aO rfl
def Ak(ds:List Dc)(g:Gl):Bool:=dw g&&decide (g.op<=4)&&(decide (g.op≠0)||jo ds g.n g.a.length)
theorem ahC(p:Pg)(g:Gl)(j:p.ds.length<=1099511627776)(e:Gf g):ad U 53 [pg O p,gl O g] (.v (.bool (Ak p.ds g))):=by
 have f:=zN (U:=U) (O:=O) g e.1 e.2;have k:=e.1.len;let⟨d,s⟩:=p;let⟨o,n,a⟩:=g;dsimp only at j k⊢;have h:∀q:Int,q=a.length->ad U 108 [ir O d,.v (.string n),iv q] (.v (.bool (jo d n a.length))):=λq t=>by grind[y8]
 let⟨R,b⟩:=au (Ak d ⟨o,n,a⟩);rw[<-b];unfold Ak at b;dsimp only at b;let⟨G,i⟩:=au (dw ⟨o,n,a⟩);let⟨l,c⟩:=au (jo d n a.length);rw[<-i]at f b;rw[<-c]at h b;clear i c;refine st auM Y5 .v ?_;repeat' first|refine bg Y5 (pl f) (λ_=>?_) λ_=>?_|refine og Y5 (D.bU rfl (h _ Z) ⟨eM _,.v,.v,trivial⟩) ?_|refine cg Y5 (λr=>?_) λr=>?_|refine lg Y5 λm u=>?_|refine fq ?_
 all_goals refine aO ?_;rw[b];clear f h b;simp_all<;>omega
end
end Go.Proofs.YtbdcmpknicjopaaGreat
