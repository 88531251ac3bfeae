import Derived.Test.YtbdcmpknicjopaaGreatTb13
namespace Go.Proofs.YtbdcmpknicjopaaGreat
set_option linter.all false
set_option maxRecDepth 100000
open Go.RowKit Proofs.Tryz
variable{B MB N n sz:Nat}{K:List gE}{O:Hd}{P:Program}{Q:Exit->AA->ah->Prop}{S S' S1:ah}{U:AA}{V:List (Nat×Nat)}{Y:World}{a:List Tm}{b i x:QO}{d dd:Option Nat}{dr ex ex':Bool}{gg:Option (Nat×Bool)}{jX:List QO}{l:List QI}{o:Oper}{r r':AV}{rs:List Nat}{so:List (Nat×Ob)}
section
attribute [local irreducible] ao aF D H
def aoJ:=aD func186 call186
def zM:List Nat:=[6,4,0,5,10,1,19]
def Bd.ok(x:Bd):Prop:=x.t.ok/\dm x.t<=1099511627776
def ab4:Tm:=⟨0,0,⟨#[]⟩,[]⟩
def gj(b:List Bd)(v:Int):Tm×Bool:=match b.find? λx=>x.v==v with|some x=>(x.t,true)|none=>(ab4,false)
theorem P2{O:Hd}:aH S (.agg [.v (.int .i64 0),.v (.int .i64 0),.v (.string ⟨#[]⟩),.sl true []]) (tm O ab4):=by refine .agg rfl λi a d b c=>?_;match i,b,c with|0,b,c=>cases oJ_ b;cases oJ_ c;exact .refl _|1,b,c=>cases oJ_ b;cases oJ_ c;exact .refl _|2,b,c=>cases oJ_ b;cases oJ_ c;exact .refl _|3,b,c =>cases oJ_ b;cases oJ_ c;rw[ab4,tl,bF];exact aH.wk
theorem zf{a a':AV}{b:Bool}(h:aH S a a'):aH S (.aJ [a,.v (.bool b)]) (.aJ [a',.v (.bool b)]):=by refine .aJ rfl λi x e c d=>?_;match i,c,d with|0,c,d=>cases oJ_ c;cases oJ_ d;exact h|1,c,d=>cases oJ_ c;cases oJ_ d;exact .refl _
theorem P3(b:List Bd)(v:Int)(p:b.length<=1099511627776):ab Y 186 [bf O b,iv v] (.aJ [tm O (gj b v).1,.v (.bool (gj b v).2)]):=by
 let⟨R,e⟩:=aq (gj b v);rw[<-e];refine st aoJ zM (.aJ λa f=>by simp only[ae_,aw_,or_false]at f;rcases f with rfl|rfl;exact bI _;exact .v) ?_;refine bE 1 1 [] (λi=>[(0,bf O b),(1,.v (.int .i64 v)),(4,.pt 0 4 0 0),(6,.v (.int .i64 i))]) [] (λ_=>[(0,.arr 4 [[.v (.int .i64 0),.v (.int .i64 0),.v (.string ⟨#[]⟩),.sl true []]] 0 true)]) b.length (λk=>R=gj (b.drop k) v) I λi k h q c=>?_;clear e;refine Z zM ?_;by_cases j:k<b.length
 ·let⟨x,l,n⟩:=aA j;rw[n,gj,cl_]at c;let⟨g,r,s,t,u⟩:=x;repeat' first|refine og zM (D.bh h l) ?_|refine cg zM (λd=>?_) λd=>?_|refine lg zM λm o=>?_|refine ag zM λ_ _=>?_|refine xG zM ?_|refine rG zM ?_|refine fq ?_
  all_goals first|omega|rw[show(g==v)=true by grind]at c;subst c;exact aH.of_eq rfl|rw[show(g==v)=false by grind]at c;exact cw _ [] (k+1) (by rw[c];rfl)
 ·skip;repeat' first|refine cg zM (λd=>?_) λd=>?_|refine lg zM λm o=>?_|refine xG zM ?_|refine fq ?_
  all_goals first|omega|skip
  rw[al_ X,gj]at c;subst c;exact zf P2
def aoK:=aD func188 call188
def gF:List Nat:=[3,0,6,5,4,1,16,27]
def aoL:=aD func187 call187
def zN:List Nat:=[4,0,3,2,8]
def aoM:=aD func115 call115
def ajo:List Nat:=[2,0,1]
def aoN:=aD func114 call114
def ajp:List Nat:=[2,0,1]
def aoO:=aD func116 call116
def ajq:List Nat:=[2,0,1]
theorem m8:∀(l m s:List Int),bT s (l++m)=bT s l++bT (s++bT s l) m|[],m,s=>by simp[bT]|x::l,m,s=>by rw[aP_,bT,bT];split;exact m8 l m s;rw[m8 l m (s++[x])];simp
theorem Cv.ag1{Y:World}{n:Nat}{U:AA}(o:Ob):Cv Y n U S U (S.new o):=by
 intro A g a w c r;have key:∀k p,(S.new o).get k=some p->g.al k->S.get k=some p:=λk p b d=>by have u:=c.al k d;have b:bL S.get S.nx (some o) k=some p:=b;rwa[aP _ _ X]at b
 refine⟨g,⟨c.base,c.up,c.lo,λk b=>cr_ (c.al k b),λk p b d=>c.cY k p (key k p b d) d,λi j p q s h l f e=>c.inj i j p q (key i p s l) (key j q h f) l f e,c.dN,c.uv,λk J b d=>c.l_ k J (key k _ b d) d,λk J j p b d h f=>c.oV k J j p (key k _ b d) d (key j p h f) f,λj k J t h b f m=>c.rp j k J t (key j _ h f) (key k _ b m) f m⟩,r,Ext.refl ..⟩
def tf(O:Hd)(Mx:List Int):Ob:=.arr 1 (O.h (List.map aR) Mx) 0 false
theorem lX{s:List Int}:∀row∈O.h (List.map aR) s,∀a∈row,Pure a:=by rw[O.eq];intro row b a c;obtain⟨x,_,rfl⟩:=aB_.1 b;cases ak_.1 c;exact .v
theorem YX(x:Tm):∀(Mx:List Int)(len:Nat),x.ok->len=Mx.length->Mx.length+(eF x).length<=1099511627776->∃r,r=(Mx++bT Mx (eF x)).length /\aF prog Y 188 [.gr 0 1 len,tm O x] (aw [(0,tf O Mx)] 1) (.gr 1 1 r) (aw [(1,tf O (Mx++bT Mx (eF x)))] 2):=by
 refine Tm.ind (p:=λx=>∀(Mx:List Int)(len:Nat),x.ok->len=Mx.length->Mx.length+(eF x).length<=1099511627776->∃r,r=(Mx++bT Mx (eF x)).length /\aF prog Y 188 [.gr 0 1 len,tm O x] (aw [(0,tf O Mx)] 1) (.gr 1 1 r) (aw [(1,tf O (Mx++bT Mx (eF x)))] 2)) ?_ x;intro J i n a S Mx len hx GL T;let⟨eg,fF,Q⟩:=hx.out;dsimp only at eg fF Q;let⟨res,g⟩:=aq (Mx++bT Mx (eF ⟨J,i,n,a⟩));let⟨r,mS⟩:=aq res.length;rw[<-g];refine⟨r,mS,?_⟩;have F:=Mb (Y:=Y) (O:=O) ⟨J,i,n,a⟩;have V:=aiV (Y:=Y) (O:=O) Mx i X;rw[qK]at F;dsimp only at F;rw[eF]at g T;let⟨B,W⟩:=aq (Mx.contains i);rw[<-W]at V;let⟨b,s⟩:=aq (if J=2 then a else[]);rw[<-s]at F;have hl:b.length<=1099511627776:=by rw[s];split;omega;simp
 have G:∀y∈b,y∈a:=by intro y hy;rw[s]at hy;split at hy;grind;grind
 have R:(if J=2 then aZ a else[])=aZ b:=by rw[s];split<;>rfl
 refine sc 1 2 aoK ?_;refine Z gF ?_;by_cases hk:J=1
 ·subst hk;rw[if_pos rfl,bT,bT]at g;rw[if_pos rfl,be_]at T;rw[if_neg aC]at s R;have UC:aZ b=[]:=by rw[s,aZ]
  have xw:(aZ b).length=0:=by rw[UC];rfl
  rw[<-W]at g;clear s R;repeat' first|refine bg gF (D.tI rfl V ⟨bJ _,.v,trivial⟩ .v ⟨aH.grow rfl GL,.refl _,trivial⟩) (λ_=>?_) λ_=>?_|apply a8 gF F|exact dF e|refine cg gF (λe=>?_) λe=>?_
  ·rw[if_pos (by assumption)]at g;have t:res=Mx++bT Mx (aZ b):=by rw[g,UC,bT]
   refine cr (τ:=List Int×Nat) 3 4 [(3,0)] (λp=>[(0,.gr 3 1 p.2.2),(5,tl O b),(6,.v (.int .i64 p.1))]) [] (λp=>[(3,tf O p.2.1)]) b.length (λk p=>res=p.2.1++bT p.2.1 (aZ (b.drop k))/\p.2.2=p.2.1.length/\p.2.1.length+(aZ (b.drop k)).length<=1099511627776) (Mx,len) ⟨by simpa using t,by simp only;omega,by simp only[bC_];first|omega ⟩ ?_;rintro j k⟨d,u⟩v eX⟨c,w,z⟩;simp only at v c w z;clear t g;refine Z gF ?_;by_cases K:k<b.length
   ·let⟨y,h,A⟩:=aA K;rw[jZ A,m8]at c;rw[jZ A,ar_]at z;let⟨L,C,E⟩:=S y (G y (aW h)) d u (Q.mem y (G y (aW h))) w X;have M:=lW (eF y) d;let⟨o,q⟩:=aq (d++bT d (eF y));rw[<-bn_,<-q]at c;rw[<-q]at C E;have N:o.length<=d.length+(eF y).length:=by rw[q,ar_];omega
    repeat' first|refine og gF (D.ind rfl rfl (cD (l:=b) v h) cE) ?_|refine og gF (D.n0 (m:=[(0,3)]) (to:=[(3,none),(5,some (tf O o))]) E rfl ⟨Rn.gr rfl rfl,Rn.pure (bI _),trivial⟩ (Rb.gr rfl) rfl rfl ⟨⟨_,rfl,lU.pure lX⟩,trivial⟩ ⟨⟨1,_,rfl,rfl,m7.pure lX⟩,trivial⟩ rfl (by repeat first|exact jf rfl) (.inr rfl)) ?_|refine cg gF (λe=>?_) λe=>?_|refine lg gF λm P=>?_|refine ag gF λ_ _=>?_|refine xG gF ?_|refine fq ?_
    all_goals first|omega|exact bP (_,o,L) [(3,5)] (k+1) ⟨c,C,I⟩
   ·rw[al_ X,aZ,bT,aG_]at c;repeat' first|refine cg gF (λe=>?_) λe=>?_|refine lg gF λm P=>?_|refine xG gF ?_|refine fq ?_
    all_goals first|omega|skip
    subst c;cases(X:u=r);exact⟨[(1,3)],.jI rfl rfl,⟨.inl ⟨_,rfl,.same wv⟩,trivial⟩,rfl⟩
  ·rw[if_neg (by simp_all)]at g;refine H.app (x:=i) (f:=aR) rfl rfl rfl GL (λ_=>rfl) rfl rfl rfl rfl X λs' atO jB ayM=>?_;refine Z gF ?_;repeat' first|apply a8 gF F
   have t:res=s'++bT s' (aZ b):=by rw[g,jB,UC,bT];simp[bT]
   refine cr (τ:=List Int×Nat) 3 4 [(3,2)] (λp=>[(0,.gr 3 1 p.2.2),(5,tl O b),(6,.v (.int .i64 p.1))]) [] (λp=>[(3,tf O p.2.1)]) b.length (λk p=>res=p.2.1++bT p.2.1 (aZ (b.drop k))/\p.2.2=p.2.1.length/\p.2.1.length+(aZ (b.drop k)).length<=1099511627776) (s',atO) ⟨by simpa using t,by simp only;omega,by simp only[bC_];first|rw[jB];simp only[ar_,be_];omega⟩ ?_;rintro j k⟨d,u⟩v eX⟨c,w,z⟩;simp only at v c w z;clear t g;refine Z gF ?_;by_cases K:k<b.length
   ·let⟨y,h,A⟩:=aA K;rw[jZ A,m8]at c;rw[jZ A,ar_]at z;let⟨L,C,E⟩:=S y (G y (aW h)) d u (Q.mem y (G y (aW h))) w X;have M:=lW (eF y) d;let⟨o,q⟩:=aq (d++bT d (eF y));rw[<-bn_,<-q]at c;rw[<-q]at C E;have N:o.length<=d.length+(eF y).length:=by rw[q,ar_];omega
    repeat' first|refine og gF (D.ind rfl rfl (cD (l:=b) v h) cE) ?_|refine og gF (D.n0 (m:=[(0,3)]) (to:=[(3,none),(5,some (tf O o))]) E rfl ⟨Rn.gr rfl rfl,Rn.pure (bI _),trivial⟩ (Rb.gr rfl) rfl rfl ⟨⟨_,rfl,lU.pure lX⟩,trivial⟩ ⟨⟨1,_,rfl,rfl,m7.pure lX⟩,trivial⟩ rfl (by repeat first|exact jf rfl) (.inr rfl)) ?_|refine cg gF (λe=>?_) λe=>?_|refine lg gF λm P=>?_|refine ag gF λ_ _=>?_|refine xG gF ?_|refine fq ?_
    all_goals first|omega|exact bP (_,o,L) [(3,5)] (k+1) ⟨c,C,I⟩
   ·rw[al_ X,aZ,bT,aG_]at c;repeat' first|refine cg gF (λe=>?_) λe=>?_|refine lg gF λm P=>?_|refine xG gF ?_|refine fq ?_
    all_goals first|omega|skip
    subst c;cases(X:u=r);exact⟨[(1,3)],.jI rfl rfl,⟨.inl ⟨_,rfl,.same wv⟩,trivial⟩,rfl⟩
 ·rw[if_neg hk,R]at g T;clear s R V W;repeat' first|apply a8 gF F|refine cg gF (λe=>?_) λe=>?_
  exact absurd I hk;have t:res=Mx++bT Mx (aZ b):=by exact g
  refine cr (τ:=List Int×Nat) 3 4 [(3,0)] (λp=>[(0,.gr 3 1 p.2.2),(5,tl O b),(6,.v (.int .i64 p.1))]) [] (λp=>[(3,tf O p.2.1)]) b.length (λk p=>res=p.2.1++bT p.2.1 (aZ (b.drop k))/\p.2.2=p.2.1.length/\p.2.1.length+(aZ (b.drop k)).length<=1099511627776) (Mx,len) ⟨by simpa using t,by simp only;omega,by simp only[bC_];first|omega ⟩ ?_;rintro j k⟨d,u⟩v eX⟨c,w,z⟩;simp only at v c w z;clear t g;refine Z gF ?_;by_cases K:k<b.length
  ·let⟨y,h,A⟩:=aA K;rw[jZ A,m8]at c;rw[jZ A,ar_]at z;let⟨L,C,E⟩:=S y (G y (aW h)) d u (Q.mem y (G y (aW h))) w X;have M:=lW (eF y) d;let⟨o,q⟩:=aq (d++bT d (eF y));rw[<-bn_,<-q]at c;rw[<-q]at C E;have N:o.length<=d.length+(eF y).length:=by rw[q,ar_];omega
   repeat' first|refine og gF (D.ind rfl rfl (cD (l:=b) v h) cE) ?_|refine og gF (D.n0 (m:=[(0,3)]) (to:=[(3,none),(5,some (tf O o))]) E rfl ⟨Rn.gr rfl rfl,Rn.pure (bI _),trivial⟩ (Rb.gr rfl) rfl rfl ⟨⟨_,rfl,lU.pure lX⟩,trivial⟩ ⟨⟨1,_,rfl,rfl,m7.pure lX⟩,trivial⟩ rfl (by repeat first|exact jf rfl) (.inr rfl)) ?_|refine cg gF (λe=>?_) λe=>?_|refine lg gF λm P=>?_|refine ag gF λ_ _=>?_|refine xG gF ?_|refine fq ?_
   all_goals first|omega|exact bP (_,o,L) [(3,5)] (k+1) ⟨c,C,I⟩
  ·rw[al_ X,aZ,bT,aG_]at c;repeat' first|refine cg gF (λe=>?_) λe=>?_|refine lg gF λm P=>?_|refine xG gF ?_|refine fq ?_
   all_goals first|omega|skip
   subst c;cases(X:u=r);exact⟨[(1,3)],.jI rfl rfl,⟨.inl ⟨_,rfl,.same wv⟩,trivial⟩,rfl⟩
theorem DP(l:List Tm)(B:l.length<=1099511627776)(s:dS l)(t:(aZ l).length<=1099511627776):ab Y 187 [tl O l] (aY O aR false (varsOf l)):=by
 let⟨res,c⟩:=aq (varsOf l);rw[<-c];unfold varsOf at c;refine st aoL zN (bJ _) ?_;refine cr (τ:=List Int×Nat) 0 1 [] (λp=>[(0,tl O l),(3,.gr 0 1 p.2.2),(4,.v (.int .i64 p.1))]) [] (λp=>[(0,tf O p.2.1)]) l.length (λk p=>res=p.2.1++bT p.2.1 (aZ (l.drop k))/\p.2.2=p.2.1.length/\p.2.1.length+(aZ (l.drop k)).length<=1099511627776) ([],0) ⟨by simpa using c,rfl,by simpa using t⟩ ?_;rintro j k⟨b,u⟩h E⟨a,d,i⟩;simp only at h a d i;clear c;refine Z zN ?_;by_cases v:k<l.length
 ·let⟨y,n,o⟩:=aA v;rw[jZ o,m8]at a;rw[jZ o,ar_]at i;let⟨w,q,r⟩:=YX (Y:=Y) (O:=O) y b u (s.mem y (aW n)) d X;have x:=lW (eF y) b;let⟨e,f⟩:=aq (b++bT b (eF y));rw[<-bn_,<-f]at a;rw[<-f]at q r;have z:e.length<=b.length+(eF y).length:=by rw[f,ar_];omega
  repeat' first|refine og zN (D.ind rfl rfl (cD (l:=l) h n) cE) ?_|refine og zN (D.n0 (m:=[(0,0)]) (to:=[(0,none),(2,some (tf O e))]) r rfl ⟨Rn.gr rfl rfl,Rn.pure (bI _),trivial⟩ (Rb.gr rfl) rfl rfl ⟨⟨_,rfl,lU.pure lX⟩,trivial⟩ ⟨⟨1,_,rfl,rfl,m7.pure lX⟩,trivial⟩ rfl (by repeat first|exact jf rfl) (.inr rfl)) ?_|refine cg zN (λg=>?_) λg=>?_|refine lg zN λm A=>?_|refine ag zN λ_ _=>?_|refine xG zN ?_|refine fq ?_
  all_goals first|omega|exact bP (_,e,w) [(0,2)] (k+1) ⟨a,q,I⟩
 ·rw[al_ X,aZ,bT,aG_]at a;repeat' first|refine cg zN (λg=>?_) λg=>?_|refine lg zN λm A=>?_|refine xG zN ?_|refine fq ?_
  all_goals first|omega|skip
  subst a;exact aH.grow rfl d
theorem Ml(x:Tm)(e:x.ok)(f:(eF x).length<=1099511627776):ab Y 115 [tm O x] (aY O aR false (varsOf [x])):=by let⟨g,c,d⟩:=YX (Y:=Y) (O:=O) x [] 0 e rfl I;let⟨res,b⟩:=aq (varsOf [x]);rw[<-b];unfold varsOf at b;rw[aZ,aZ,aG_]at b;rw[aL_,<-b]at c d;let⟨k,i,n,a⟩:=x;refine st aoM ajo (bJ _) ?_;refine H.Cz (Cv.ag1 (tf O [])) ?_;refine og ajo (D.n0 (m:=[(0,1)]) (to:=[(1,none),(3,some (tf O res))]) d rfl ⟨Rn.nil,Rn.pure (bI (O:=O) ⟨k,i,n,a⟩),trivial⟩ (Rb.gr rfl) rfl rfl ⟨⟨_,rfl,lU.pure lX⟩,trivial⟩ ⟨⟨1,_,rfl,rfl,m7.pure lX⟩,trivial⟩ rfl (by repeat first|exactλ_ _ h=>I|refine o8 ?_ rfl) (.inr rfl)) ?_;refine fq ?_;exact aH.grow rfl c
theorem Wv(x:At)(c:x.a.length<=1099511627776)(d:dS x.a)(e:(aZ x.a).length<=1099511627776):ab Y 114 [at_ O x] (aY O aR false (varsOf x.a)):=by
 have b:=DP (Y:=Y) (O:=O) x.a c d e;let⟨n,a⟩:=x;dsimp only at b⊢;let⟨R,f⟩:=aq (varsOf a);rw[<-f]at b⊢;refine st aoN ajp (bJ _) ?_;repeat' first|apply a8 ajp b|refine fq ?_
 exact aH.of_eq rfl
theorem KI(x:Gl)(c:x.a.length<=1099511627776)(d:dS x.a)(e:(aZ x.a).length<=1099511627776):ab Y 116 [gl O x] (aY O aR false (varsOf x.a)):=by
 have b:=DP (Y:=Y) (O:=O) x.a c d e;let⟨o,n,a⟩:=x;dsimp only at b⊢;let⟨R,f⟩:=aq (varsOf a);rw[<-f]at b⊢;refine st aoO ajq (bJ _) ?_;repeat' first|apply a8 ajq b|refine fq ?_
 exact aH.of_eq rfl
def aoP:=aD func184 call184
def kS:List Nat:=[3,0,5,4,2,11,23,7,35]
def aoQ:=aD func111 call111
def oE:List Nat:=[3,0,2,7,50]
def aoR:=aD func113 call113
def qO:List Nat:=[7,0,6,13,1,21,2,9,31]
def atP:=aD func54 call54
def g54:List Nat:=[6,0,3,1,2]
def atQ:=aD func53 call53
def YY:List Nat:=[3,4,0,1,12,2]
def Mm(x:Bd):Bool:=decide (0<=x.v)&&decide (x.v<=1048576)&&cK x.t
def P4(p x:Bd):Bool:=decide (p.v<x.v)
def kh(b:List Bd)(v:Int):Bool:=b.any λx=>x.v==v
def u7(b:List Bd):Bool:=b.all λx=>(varsOf [x.t]).all λv=>!kh b v
def nh(b:List Bd):Bool:=lu Mm P4 none b&&u7 b
theorem Ns(b:List Bd)(v:Int):(gj b v).2=kh b v:=by grind[gj,kh]
theorem pZ(x:Tm):(eF x).length<=dm x:=by
 refine Tm.ind (p:=λx=>(eF x).length<=dm x) ?_ x;intro k i n a b;have key:∀l:List Tm,(∀y∈l,(eF y).length<=dm y)->(aZ l).length<=bt l:=by intro l;induction l with|nil=>intro _;simp[aZ,bt]|cons y l c =>intro h;rw[aZ,bt,ar_];have d:=h y aB;have e:=c λz f=>h z I;omega
 have g:=key a b;rw[eF,dm];split;grind;grind
theorem w7:∀l:List Tm,(aZ l).length<=bt l|[]=>by simp[aZ,bt]|x::l=>by rw[aZ,bt,ar_];have a:=pZ x;have b:=w7 l;omega
theorem u_(l:List Tm):(varsOf l).length<=bt l:=az_ (lW _ _) (w7 l)
theorem ag2(b:List Bd)(t:b.length<=1099511627776)(u:∀x∈b,x.ok):ab Y 184 [bf O b] (.v (.bool (u7 b))):=by
 let⟨R,h⟩:=aq (u7 b);rw[<-h];unfold u7 at h;refine st aoP kS .v ?_;refine bE 0 0 [] (λi=>[(0,bf O b),(3,.v (.int .i64 i))]) [] (λ_=>[]) b.length (λk=>R=(b.drop k).all λx=>(varsOf [x.t]).all λv=>!kh b v) I λi k w L d=>?_;clear h;refine Z kS ?_;by_cases y:k<b.length
 ·let⟨x,n,z⟩:=aA y;let⟨A,B⟩:=u x (aW n);rw[z,aJ_]at d;have o:=Ml (Y:=Y) (O:=O) x.t A (az_ (pZ _) B);have C:(varsOf [x.t]).length<=1099511627776:=by have E:=u_ [x.t];rw[bt,bt]at E;omega
  let⟨e,F⟩:=aq (varsOf [x.t]);rw[<-F]at d o C;let⟨M,N,P,Q,S⟩:=x;repeat' first|refine og kS (D.bh w n) ?_|apply a8 kS o|refine cg kS (λa=>?_) λa=>?_|refine lg kS λm f=>?_|refine xG kS ?_|refine fq ?_
  ·refine bE 0 0 [] (λj=>[(0,bf O b),(3,.v (.int .i64 i)),(4,aY O aR false e),(5,.v (.int .i64 j))]) [] (λ_=>[]) e.length (λq=>R=(((e.drop q).all λv=>!kh b v)&&(b.drop (k+1)).all λx=>(varsOf [x.t]).all λv=>!kh b v)) I λj q r T c=>?_;clear d;refine Z kS ?_;by_cases G:q<e.length
   ·let⟨v,s,J⟩:=aA G;rw[J,aJ_,<-Ns]at c;have g:=P3 (Y:=Y) (O:=O) b v t;let⟨⟨⟨V,W,ln,la⟩,K⟩,l⟩:∃p,p=gj b v:=⟨_,rfl⟩;rw[<-l]at g c;dsimp only at g c;cases K
    ·skip;repeat' first|refine og kS (D.bh r s) ?_|apply a8 kS g|refine cg kS (λa=>?_) λa=>?_|refine lg kS λm f=>?_|refine ag kS λ_ _=>?_|refine xG kS ?_
     all_goals first|omega|refine H.bO _ [] ?_ ?_ cq;grind;omega
    ·skip;repeat' first|refine og kS (D.bh r s) ?_|apply a8 kS g|refine cg kS (λa=>?_) λa=>?_|refine lg kS λm f=>?_|refine ag kS λ_ _=>?_|refine xG kS ?_|refine rG kS ?_|refine fq ?_
     all_goals first|omega|refine aL ?_;rw[c];rfl
   ·rw[al_ X,bk_,ay_]at c;repeat' first|refine cg kS (λa=>?_) λa=>?_|refine lg kS λm f=>?_|refine ag kS λ_ _=>?_|refine xG kS ?_
    all_goals first|omega|exact cw _ [] (k+1) c
  omega
 ·skip;repeat' first|refine cg kS (λa=>?_) λa=>?_|refine lg kS λm f=>?_|refine xG kS ?_|refine fq ?_
  all_goals first|omega|rw[d,al_ X];exact aL rfl
theorem YZ(b:List Bd)(q:b.length<=1099511627776)(n:∀x∈b,x.ok):ab Y 111 [bf O b] (.v (.bool (nh b))):=by
 have c:=ag2 (Y:=Y) (O:=O) b q n;let⟨R,f⟩:=aq (nh b);rw[<-f];unfold nh at f;let⟨r,s⟩:=aq (u7 b);rw[<-s]at f c;refine st aoQ oE .v ?_;refine H.ic (σ:=Int) 0 0 [] (λi=>[(0,bf O b),(3,.v (.int .i64 i))]) [] (λ_=>[]) (λi=>∃(k:Nat) (h:Option Bd),i=k/\k<=b.length/\R=(lu Mm P4 h (b.drop k)&&r)/\Cy b k h) (λi=>b.length-i.toNat) 0 ⟨0,none,rfl,aB,I,.inl ⟨rfl,rfl⟩⟩ rfl cq ?_;rintro i⟨k,h,o,L,a,t⟩;clear f;refine Z oE ?_;by_cases u:k<b.length
 ·let⟨x,j,v⟩:=aA u;let⟨w,y⟩:=n x (aW j);rw[v,j6]at a;have g:=DG (Y:=Y) (O:=O) x.t w y;let⟨d,z,A,B,C⟩:=x;dsimp only at g;rw[Mm]at a;dsimp only at a;let⟨V,E⟩:=aq (cK ⟨z,A,B,C⟩);rw[<-E]at g a;rcases t with⟨rfl,rfl⟩|⟨⟨F,M,N,P,Q⟩,G,J,rfl⟩
  ·simp only[AW,bF_]at a;repeat' first|refine og oE (D.bh o j) ?_|refine bg oE (pl g) (λ_=>?_) λ_=>?_|refine cg oE (λe=>?_) λe=>?_|refine lg oE λm p=>?_|refine ag oE λ_ _=>?_|refine xG oE ?_|refine rG oE ?_|refine fq ?_
   all_goals first|omega|refine aL ?_;rw[a,decide_eq_false (show¬0<=d by omega)];rfl|refine aL ?_;rw[a,decide_eq_false (show¬d<=1048576 by omega)];simp;done|refine aL ?_;rw[a,show V=false by grind];simp;done|refine H.bO _ [] ?_ ?_ cq;grind[j7];omega
  ·simp only[AW,P4]at a;repeat' first|refine og oE (D.bh o j) ?_|refine og oE (D.ind rfl rfl (eZ (l:=b) (k:=k-1) X J) (ec λ_=>rfl)) ?_|refine bg oE (pl g) (λ_=>?_) λ_=>?_|refine cg oE (λe=>?_) λe=>?_|refine lg oE λm p=>?_|refine ag oE λ_ _=>?_|refine xG oE ?_|refine rG oE ?_|refine fq ?_
   all_goals first|omega|refine aL ?_;rw[a,decide_eq_false (show¬0<=d by omega)];rfl|refine aL ?_;rw[a,decide_eq_false (show¬d<=1048576 by omega)];simp;done|refine aL ?_;rw[a,decide_eq_false (show¬F<d by omega)];simp;done|refine aL ?_;rw[a,show V=false by grind];simp;done|refine H.bO _ [] ?_ ?_ cq;grind[j7];omega
 ·rw[al_ X,sm,ay_]at a;repeat' first|apply a8 oE c|refine cg oE (λe=>?_) λe=>?_|refine lg oE λm p=>?_|refine xG oE ?_|refine fq ?_
  all_goals first|omega|rw[a];exact aL rfl
def jn(vs:List Int)(fresh:Int)(b:List Bd):Bool:=vs.all λv=>decide (v<fresh) &&!kh b v
theorem P8(vs:List Int)(fresh:Int)(b:List Bd)(l:b.length<=1099511627776)(r:vs.length<=1099511627776):ab Y 113 [aY O aR false vs,iv fresh,bf O b] (.v (.bool (jn vs fresh b))):=by
 let⟨R,e⟩:=aq (jn vs fresh b);rw[<-e];unfold jn at e;refine st aoR qO .v ?_;refine bE 0 0 [] (λi=>[(0,aY O aR false vs),(1,.v (.int .i64 fresh)),(2,bf O b),(7,.v (.int .i64 i))]) [] (λ_=>[]) vs.length (λk=>R=(vs.drop k).all λv=>decide (v<fresh) &&!kh b v) I λi k g s a=>?_;clear e;refine Z qO ?_;by_cases n:k<vs.length
 ·let⟨v,h,o⟩:=aA n;rw[o,aJ_,<-Ns]at a;have d:=P3 (Y:=Y) (O:=O) b v l;let⟨⟨⟨t,u,w,x⟩,q⟩,f⟩:∃p,p=gj b v:=⟨_,rfl⟩;rw[<-f]at d a;dsimp only at d a;cases q
  ·skip;repeat' first|refine og qO (D.bh g h) ?_|apply a8 qO d|refine cg qO (λc=>?_) λc=>?_|refine lg qO λm j=>?_|refine ag qO λ_ _=>?_|refine xG qO ?_|refine rG qO ?_|refine fq ?_
   all_goals first|omega|refine aL ?_;rw[a,decide_eq_false (show¬v<fresh by omega)];rfl|rw[decide_eq_true (show v<fresh by omega)]at a;exact cw _ [] (k+1) I
  ·skip;repeat' first|refine og qO (D.bh g h) ?_|apply a8 qO d|refine cg qO (λc=>?_) λc=>?_|refine lg qO λm j=>?_|refine xG qO ?_|refine rG qO ?_|refine fq ?_
   all_goals first|omega|refine aL ?_;rw[a];simp;done
 ·skip;repeat' first|refine cg qO (λc=>?_) λc=>?_|refine lg qO λm j=>?_|refine xG qO ?_|refine fq ?_
  all_goals first|omega|rw[a,al_ X];exact aL rfl
def zO(x:Gl):Prop:=o6 x.a/\x.n.size<=1099511627776
def wA(h:o6 a):(aZ a).length<=1099511627776:=az_ (w7 a) h.2
def uC(h:o6 a):(varsOf a).length<=1099511627776:=az_ (u_ a) h.2
theorem UD(g:Gl)(fresh:Int)(b:List Bd)(i:b.length<=1099511627776)(c:zO g):ab Y 54 [gl O g,iv fresh,bf O b] (.v (.bool (jn (varsOf g.a) fresh b))):=by
 have e:=KI (Y:=Y) (O:=O) g c.1.len c.1.1 (wA c.1);have d:=P8 (Y:=Y) (O:=O) (varsOf g.a) fresh b i (uC c.1);let⟨R,f⟩:=aq (jn (varsOf g.a) fresh b);rw[<-f]at d⊢;let⟨j,h⟩:=aq (varsOf g.a);rw[<-h]at e d;clear f h c;let⟨o,n,a⟩:=g;refine st atP g54 .v ?_;repeat' first|apply a8 g54 e|apply a8 g54 d|refine fq ?_
 exact aL rfl
def zP(ds:List Dc)(g:Gl):Bool:=de g&&decide (g.op<=4)&&(decide (g.op≠0)||jh ds g.n g.a.length)
theorem ag3(p:Pg)(g:Gl)(j:p.ds.length<=1099511627776)(e:zO g):ab Y 53 [pg O p,gl O g] (.v (.bool (zP p.ds g))):=by
 have f:=zz (Y:=Y) (O:=O) g e.1 e.2;have k:=e.1.len;let⟨d,rs⟩:=p;let⟨o,n,a⟩:=g;dsimp only at j k⊢;have h:∀q:Int,q=a.length->ab Y 108 [h_ O d,.v (.string n),iv q] (.v (.bool (jh d n a.length))):=λq s=>by grind[yV]
 let⟨R,b⟩:=aq (zP d ⟨o,n,a⟩);rw[<-b];unfold zP at b;dsimp only at b;let⟨G,i⟩:=aq (de ⟨o,n,a⟩);let⟨l,c⟩:=aq (jh d n a.length);rw[<-i]at f b;rw[<-c]at h b;clear i c;refine st atQ YY .v ?_;repeat' first|refine bg YY (pl f) (λ_=>?_) λ_=>?_|refine og YY (D.bM rfl (h _ I) ⟨eN _,.v,.v,trivial⟩) ?_|refine cg YY (λr=>?_) λr=>?_|refine lg YY λm t=>?_|refine fq ?_
 all_goals refine aL ?_;rw[b];clear f h b;simp_all<;>omega
end
section
variable{rd:Bool}{lg:List (List Nat×List Nat×Bool)}
theorem jV.rv(h:jV P Y n o U S r S')(k:Rv Y r S' r' S1):jV P Y n o U S r' S1:=by intro F m A g a w c R d e f i;refine h F m A g a w c R d e f λv b j l p q=>?_;let⟨s,t,u,k3⟩:=k A g j w b v p l;exact i v b s u t (q.trans k3)
theorem Rv.move{k len:Nat}{rows:List (List AV)}(F:S.get k=some (.arr sz rows 0 ex)):Rv Y (.gr k sz len) S (.gr S.nx sz len) ((S.set k none).new (.arr sz rows 0 false)):=by
 intro A g0 g w0' w v f hr;let⟨T,G⟩:=aq ((S.set k none).new (.arr sz rows 0 false));let⟨m,s⟩:∃m:Gh,m=⟨bL g.ob S.nx (g.ob k),bL g.cp S.nx (g.cp k),λj=>g.al j\/j=S.nx/\g.al k,g.fz,g.fo⟩:=⟨_,rfl⟩;have pe:¬g.al S.nx:=λh=>bT_ _ (f.al _ h);have t:∀j,j≠S.nx->m.ob j=g.ob j:=λj e=>by rw[s];exact aP _ _ e
 have z:∀j,j≠S.nx->m.cp j=g.cp j:=λj e=>by rw[s];exact aP _ _ e
 have B:m.ob S.nx=g.ob k:=by rw[s];exact aG _ _ _
 have M:m.cp S.nx=g.cp k:=by rw[s];exact aG _ _ _
 have n:∀j,m.al j->j≠S.nx->g.al j:=λj h e=>by rw[s]at h;rcases h with h|⟨h,_⟩;grind;grind
 have u:m.al S.nx->g.al k:=λh=>by rw[s]at h;rcases h with h|⟨_,h⟩;grind;grind
 have ne:∀j,g.al j->j≠S.nx:=λj h e=>pe (e ▸ h);have V:Later g w m w:=⟨λj h=>by rw[s];exact .inl h,λj h=>t j (ne j h),λj h=>z j (ne j h),λb o h=>by rw[s];exact h,λ_ _ _=>rfl⟩;have yF:m.fz=g.fz:=I;have W:m.fo=g.fo:=I;have Tn:T.get S.nx=some (.arr sz rows 0 false):=by rw[G];exact aG _ _ _
 have r:∀j p,j≠S.nx->T.get j=some p->j≠k/\S.get j=some p:=by intro j p e h;rw[G]at h;have h:bL (S.set k none).get S.nx (some (.arr sz rows 0 false)) j=some p:=h;rw[aP _ _ e]at h;have h:bL S.get k none j=some p:=h;by_cases K:j=k;grind[aG];grind[aP]
 have L:∀j J,T.get j=some (.fo J)->j≠S.nx:=λj J h e=>I;have hE:Ext A g w m w:={V with size:=aa_ _,aQ:=λ_ _ _=>rfl,lS:=λb o h=>by grind};have C:∀{b cp:Nat}{o:Ob},fm g w b cp o->fm m w b cp o:=λh=>h.later V rfl (λq h=>I) λJ _=>⟨I,aa_ _,λ_ _=>rfl,λc q _ h=>I⟩;rw[<-G];refine⟨m,⟨f.base,f.up,f.lo,λj h=>?_,λj p d h=>?_,λi j p q y d x E e=>?_,λb q h=>f.dN b q I,λb q h=>by rw[yF];exact f.uv b q h,λj J d h=>?_,λj J i p d h y x e=>?_,λi j J J' y d x E=>?_⟩,?_,hE⟩;have e:T.nx=S.nx+1:=by rw[G];rfl
 rw[e];by_cases a:j=S.nx;omega;have:=f.al j (n j h a);omega;by_cases a:j=S.nx;subst a;rw[Tn]at d;cases oJ_ d;let⟨q1,N,P⟩:=f.cY k _ F (u h);rw[B,M];refine⟨q1,N,?_⟩;let⟨cs,ty,h1,h2,h3,h4,h5,h6,h7⟩:=C P;exact⟨cs,ty,h1,h2,h3,λh=>I,h5,h6,h7⟩;let⟨_,Q⟩:=r j p a d;let⟨q1,N,P⟩:=f.cY j p Q (n j h a);rw[t j a,z j a];exact⟨q1,N,C P⟩;by_cases l:i=S.nx;by_cases a:j=S.nx;grind;exfalso;subst l;let⟨K,Q⟩:=r j q a d;rw[B,t j a]at e;exact K (f.inj k j _ q F Q (u x) (n j E a) e).symm;by_cases a:j=S.nx;exfalso;subst a;let⟨K,iw⟩:=r i p l y;rw[B,t i l]at e;exact K (f.inj i k p _ iw F (n i x l) (u E) e);rw[t i l,t j a]at e;exact f.inj i j p q (r i p l y).2 (r j q a d).2 (n i x l) (n j E a) e;have a:=L j J d;rw[t j a,W];exact f.l_ j J (r j _ a d).2 (n j h a);have a:=L j J d;rw[t j a,W];by_cases l:i=S.nx;subst l;rw[B];exact f.oV j J k _ (r j _ a d).2 (n j h a) F (u x) (r j _ a d).1.symm;rw[t i l];exact f.oV j J i p (r j _ a d).2 (n j h a) (r i p l y).2 (n i x l) e;have l:=L i J y;have a:=L j J' d;exact f.rp i j J J' (r i _ l y).2 (r j _ a d).2 (n i x l) (n j E a);rcases te hr with⟨h,A',rfl⟩|⟨jW,c,rfl,hx,R⟩;subst h;exact .lR;rw[<-B];refine .gr (by rw[s];exact .inr ⟨rfl,jW⟩) I R
theorem Rv.nil:Rv Y (.sl true []) S (.gr S.nx sz 0) (S.new (.arr sz [] 0 false)):=by intro A g0 g o w v b r;let⟨f,s,t,u⟩:=(show∃f,St Y A f (S.new (.arr sz [] 0 false)) w/\aN f w (.gr S.nx sz 0) v/\Ext A g w f w from by
  have key:∀k p,(S.new (.arr sz [] 0 false)).get k=some p->g.al k->S.get k=some p:=λk p a c=>by have z:=b.al k c;have a:bL S.get S.nx (some (.arr sz [] 0 false)) k=some p:=a;rwa[aP _ _ X]at a
  refine⟨g,⟨b.base,b.up,b.lo,λk a=>cr_ (b.al k a),λk p a c=>b.cY k p (key k p a c) c,λi j p q x h m d e=>b.inj i j p q (key i p x m) (key j q h d) m d e,b.dN,b.uv,λk J a c=>b.l_ k J (key k _ a c) c,λk J j p a c h d=>b.oV k J j p (key k _ a c) c (key j p h d) d,λj k J y h a d n=>b.rp j k J y (key j _ h d) (key k _ a n) d n⟩,?_,Ext.refl ..⟩;cases r with|nil l=>cases l rfl;exact .lR|sl l=>exact absurd rfl l);exact⟨f,s,t,u⟩
theorem Rv.ab6{k len:Nat}:Rv Y (.ob k sz 0 len none) S (.gr k sz len) S:=by intro A g0 g a w v b c;refine⟨g,b,?_,Ext.refl ..⟩;cases c with|ob q1 e f h d=>rw[bc_];exact .gr q1 I d
section
variable{T:Type}{f:T->List AV}{Mx ys:List T}
theorem H.yd{t:Nat}{k len:Nat}(j:bD U.tm gg=some true)(h1:U.tm t=.gr k sz len)(e:S.get k=some (.arr sz (O.h (List.map f) Mx) 0 ex))(m:len=Mx.length)(p:∀c,b.ev (bL U.tm t c)=b.ev U.tm)(g:b.ev U.tm=aY O f ex' ys)(r:∀x,(f x).length=sz)(s:∀x,(f x).all db=true)(u:(len+ys.length)*MB<=35184372088832)(kk:∀a d,a=Mx++ys->d=a.length->H P Y rd n Q (.bk false l K) (bW dd U (.gr S.nx sz d)) ((S.set k none).new (.arr sz (O.h (List.map f) a) 0 false))):H P Y rd n Q (.bk false (⟨dd,gg,.append sz MB (.t t) b⟩::l) K) U S:=by have z:(O.h (List.map f) Mx).length=Mx.length:=az;by_cases q:ys=[];subst q;rw[bF]at g;have h:=kk Mx len aB m;exact H.op (i:=⟨dd,gg,.append sz MB (.t t) b⟩) j (λn o v=>(FI v h1 e X p (by rw[g];exact jk)).rv (Rv.move e)) h;exact H.abY j h1 e m p g r s u (λh=>absurd h q) λa d _ w y=>kk a d w y
theorem H.Ww{t:Nat}{k len:Nat}(m:bD U.tm gg=some true)(h1:U.tm t=.gr k sz len)(p:S.get k=some (.arr sz (O.h (List.map f) Mx) 0 ex))(v:len=Mx.length)(q:∀c,b.ev (bL U.tm t c)=b.ev U.tm)(a:b.ev U.tm=aY O f ex' ys)(w:∀x,(f x).length=sz)(z:∀x,(f x).all db=true)(L:(len+ys.length)*MB<=35184372088832)(kk:∀g r,g=Mx++ys->r=g.length->H P Y rd n Q (.kL B V (lg++[([k],[S.nx,k],true)]) rs l K) (bW dd U (.gr S.nx sz r)) (ff S [(S.nx,some (.arr sz (O.h (List.map f) g) 0 false)),(k,none)] true)):H P Y rd n Q (.kL B V lg rs (⟨dd,gg,.append sz MB (.t t) b⟩::l) K) U S:=by have M:(O.h (List.map f) Mx).length=Mx.length:=az;rw[bF]at a;cases ys with|nil =>have h:=kk Mx len aB v;refine H.gG (i:=⟨dd,gg,.append sz MB (.t t) b⟩) (d:=⟨[(k,.arr sz (O.h (List.map f) Mx) 0 ex)],[(S.nx,some (.arr sz (O.h (List.map f) Mx) 0 false)),(k,none)],true⟩) m ?_ h;have A:=bm.aoq (P:=P) (Y:=Y) (B:=B) (MB:=MB) h1 p X q a;intro n o j;let⟨N,C,E⟩:=A n o j;refine⟨λR=>by grind[Cu,zd],C,λT F s G=>?_⟩;have u:=E T F s λh=>I;rw[show ff T [] false=T from lV]at u;have J:=u.rv (Rv.move (Y:=Y) (len:=len) (s (k,.arr sz (O.h (List.map f) Mx) 0 ex) aB));rw[<-G rfl,gQ];exact J|cons y ys =>
  have h:=kk _ _ rfl rfl;have e:O.h (List.map f) Mx++List.map f (y::ys)=O.h (List.map f) (Mx++y::ys):=by rw[O.eq,O.eq,aZ_]
  rw[<-e,show(Mx++y::ys).length=len+(f y::List.map f ys).length by grind]at h;refine H.gG (i:=⟨dd,gg,.append sz MB (.t t) b⟩) m (bm.gD (x:=f y) (G2:=List.map f ys) h1 p X q a (λrow j=>?_) I) h;obtain⟨x,_,rfl⟩:=aB_.1 (show row∈List.map f (y::ys) from j);exact⟨w x,z x⟩
theorem H.aeT{a:QO}(v:bD U.tm gg=some true)(h1:a.ev U.tm=.sl true [])(g:b.ev U.tm=aY O f ex' ys)(z:∀x,(f x).length=sz)(A:ys.length*MB<=35184372088832)(kk:∀j t,j=ys->t=j.length->H P Y rd n Q (.kL B V (lg++[([],[S.nx],true)]) rs l K) (bW dd U (.gr S.nx sz t)) (ff S [(S.nx,some (.arr sz (O.h (List.map f) j) 0 false))] true)):H P Y rd n Q (.kL B V lg rs (⟨dd,gg,.append sz MB a b⟩::l) K) U S:=by rw[bF]at g;have h:=kk _ _ rfl rfl;rw[O.eq]at h;refine H.gG (i:=⟨dd,gg,.append sz MB a b⟩) (d:=⟨[],[(S.nx,some (.arr sz (List.map f ys) 0 false))],true⟩) v ?_ h;cases ys with|nil =>have k:=bm.Mh (P:=P) (Y:=Y) (B:=B) (S:=S) (sz:=sz) (MB:=MB) h1 g;intro n o c;let⟨u,m,p⟩:=k n o c;refine⟨λC=>by grind[Cu,zd],m,λT q r s=>?_⟩;have e:=p T q r λh=>I;rw[show ff T [] false=T from lV]at e;have w:=e.rv (Rv.nil (Y:=Y) (sz:=sz));rw[<-s rfl,gQ];exact w|cons y ys =>have k:=bm.PV (P:=P) (Y:=Y) (B:=B) (S:=S) (sz:=sz) (MB:=MB) (x:=f y) (G2:=List.map f ys) h1 g (λrow c=>I) I;intro n o c;let⟨u,m,p⟩:=k n o c;refine⟨u,m,λT q r s=>?_⟩;have e:=(p T q r s).rv (Rv.ab6 (Y:=Y));simpa using e
theorem H.su{a:QO}(e:bD U.tm gg=some true)(h1:a.ev U.tm=.sl true [])(c:b.ev U.tm=aY O f ex' ys)(j:∀x,(f x).length=sz)(k:ys.length*MB<=35184372088832)(kk:∀d g,d=ys->g=d.length->H P Y rd n Q (.bk false l K) (bW dd U (.gr S.nx sz g)) (S.new (.arr sz (O.h (List.map f) d) 0 false))):H P Y rd n Q (.bk false (⟨dd,gg,.append sz MB a b⟩::l) K) U S:=by rw[bF]at c;have h:=kk _ _ rfl rfl;rw[O.eq]at h;cases ys with|nil=>exact H.op (i:=⟨dd,gg,.append sz MB a b⟩) e ((D.Mh h1 (by rw[c];exact jk)).rv Rv.nil) h|cons y ys =>refine H.op (i:=⟨dd,gg,.append sz MB a b⟩) e ((D.PV (rows:=[]) (x:=f y) (G2:=List.map f ys) h1 (by rw[c];exact jk) (λ_ h=>I) (λrow o=>I) I).rv Rv.ab6) ?_;simpa using h
end
def H.ajv{gd:Option (Nat×Bool)}{f:QO}{g:FuncId}{args QY:List AV}{r₀:AV}{so':List (Nat×Ob)}{ob:Ob}(a:bD U.tm gd=some true)(b:aF P Y g args (aw [] 0) r (aw so' 1))(h:fp (f.ev U.tm) (jX.map (·.ev U.tm))=some (g,QY))(c:zI (aX []) 0 QY args)(e:Rb (dV (aX []) 0 S.nx) r r₀)(j:iB (dV (aX []) 0 S.nx) so' [(S.nx,some ob)])(k:BZ so'=true)(kk:H P Y rd n Q (.kL B V (lg++[([],[S.nx],true)]) rs l K) (bW d U r₀) (ff S [(S.nx,some ob)] true)):H P Y rd n Q (.kL B V lg rs (⟨d,gd,.call f jX⟩::l) K) U S :=H.gG (i:=⟨d,gd,.call f jX⟩) a (bm.aor b h c e j k) kk
theorem D.JC{len m:Nat}{k:LK}{l:List AV}{a:AV}{c:IntKind}{j:Int}{dr:Bool}(h1:x.ev U.tm=.agg l)(h2:i.ev U.tm=.v (.int c j))(h3:xy k l (j.toNat*m)=some a)(h4:0<=j)(h5:j<len):D P Y dr (.JC len m k x i) U S a S:=by refine D.of rfl λo b=>?_;cases o<;>simp only[res,cN,gH]at b<;>(repeat' split at b)<;>(try cases b);rw[aU]at h1 h2;rename_i e d;rw[<-FX d]at h3;simp only[bX, *];exact bQ.mk rfl ⟨trivial,trivial,rfl,rfl⟩
theorem UG{o:Op}(h:res P.toTables o=some (.len false x)):∃c t u e,o=.call c/\c.callee=.builtin .len/\c.argTypes=#[t]/\c.args=#[u]/\x=qo u/\P.underlying t=some (.slice e):=by cases o<;>simp only[res,cN]at h<;>(repeat' split at h)<;>(try cases h);rename_i c a t y b d e f;exact⟨_,_,_,_,rfl,I,toList_one (by assumption),toList_one I,rfl,by assumption⟩
theorem P9{o:Oper}{k len:Nat}(m:res P.toTables o.op=some (.len false x))(β:AA)(h:x.ev β.tm=.gr k sz len):jV P Y n o β S (.v (.int .i64 len)) S:=by obtain⟨c,t,u,e,b,d,f,i,rfl,j⟩:=UG m;rw[aU]at h;refine bj.ops (bj.quiet λA g q w s p=>?_) λr e=>I;have l:=p.ev u;rw[h]at l;refine⟨_,?_,.v⟩;rcases te l with⟨rfl,v,a⟩|⟨_,r,a,_,_⟩;simp[execOp,b,resolve,d,i,f,a,invoke,builtin,Builtin.len_,run_underlying j,goInt];simp[execOp,b,resolve,d,i,f,a,invoke,builtin,Builtin.len_,run_underlying j,goInt]
theorem D.nt{dr:Bool}{k len:Nat}(h:x.ev U.tm=.gr k sz len):D P Y dr (.len false x) U S (.v (.int .i64 len)) S:=by cases dr with|false=>exactλn o a=>P9 a U h|true =>
  intro n o a;let⟨c,t,u,e,d,j,l,f,g,m⟩:=UG a;have i:x.ev (U.only (dW o)).tm=.gr k sz len:=by rw[<-h,g,aU,aU];exact gL λt e=>gM (by rw[d,<-e];show u∈c.operands;simp[Call.operands,f])
  have b:∀T,jV P Y n o (U.only (dW o)) T (.v (.int .i64 len)) T:=λT=>P9 a _ i;exact⟨b S,λ_=>⟨rfl,b⟩,λ_=>rfl⟩
def H.atS{σ:Type}{N:Nat}{ds:List DE}{st:σ->List (Nat×AV)}{so:σ->List (Nat×Ob)}{a:σ->Prop}{b:List PanicEntry}(h:H P Y rd n Q (.out (.panic b) K) U S):H P Y rd n (Wx P Y rd n B N st ds so a Q K) (.out (.panic b) []) U S:=h
end
section
variable{T:ah}{f:FuncId}{args:List AV}
def Rn.bu{a:AV}(h:eE N a):Rn id N a a:=λg w x b=>aN.bu (B:=N) (g:=g) (g':=g.pre id N) (λk c d=>⟨c,d⟩) (λ_ _=>rfl) (λ_ _=>rfl) (λ_ _ h=>h) b h
theorem fm.bu{g g':Gh}{w:World}{B b C:Nat}{o:Ob}(S:∀k,k<B->g.al k->g'.al k)(T:∀k,k<B->g.al k->g'.ob k=g.ob k)(V:∀k,k<B->g.al k->g'.cp k=g.cp k)(E:g'.fz=g.fz)(n:kH B o)(F:∀J,o≠.fo J)(p:∀{a:AV}{x:Value},eE B a->aN g w a x->aN g' w a x)(h:fm g w b C o):fm g' w b C o:=by cases o with|arr sz rows fz ex =>let⟨G,K,d,f,l,m,q,r,u⟩:=h;refine⟨G,K,d,f,l,m,λi row v=>⟨(q i row v).1,λj a c=>?_⟩,r,by rw[E];exact u⟩;let⟨x,M,N⟩:=(q i row v).2 j a c;exact⟨x,M,p (n _ (am_ v) _ (am_ c)) N⟩|mp P =>let⟨entries,clock,d,f,l⟩:=h;refine⟨entries,clock,d,f,λi k a c=>?_⟩;let⟨e,y,z,A⟩:=l i k a c;exact⟨e,y,z,p (n _ (am_ c)) A⟩|mb P =>let⟨entries,d,f,l,m⟩:=h;refine⟨entries,d,f,λi k a c=>?_,m⟩;let⟨e,y,z,A⟩:=l i k a c;exact⟨e,y,z,p (n _ (am_ c)) A⟩|lp st W tm ps assign body =>let⟨L,d,f,l,m,q,r,u,Q⟩:=h;exact⟨L,d,f,l,m,q,r,λt R=>p (n t) (u t R),Q⟩|df=>exact h|si s pos=>exact h|fo J=>exact absurd rfl (F J)|un=>exact h.elim
theorem lU.bu{o:Ob}(a:kH N o)(c:∀J,o≠.fo J):lU id N o o:=by refine⟨λg w b e h=>?_,λJ h=>h⟩;exact fm.bu (B:=N) (g:=g) (g':=g.pre id N) (λk a d=>⟨a,d⟩) (λ_ _ _=>rfl) (λ_ _ _=>rfl) rfl a c (λa h=>Rn.bu a g w _ h) h
theorem aN.back{gc g:Gh}{w:World}{o:Nat->Nat}(t:∀k,k<N->o k=k)(s:Bk o gc g):∀{a:AV}{x:Value},eE N a->aN gc w a x->aN g w a x:=by
 have n:∀k,k<N->gc.al k->g.al k:=λk b p=>by have:=s.al k p;rwa[t k b]at this
 have q:∀k,k<N->gc.al k->g.ob k=gc.ob k:=λk b p=>by have:=s.ob k p;rwa[t k b]at this
 have Q:∀k,k<N->gc.al k->g.cp k=gc.cp k:=λk b p=>by have:=s.cp k p;rwa[t k b]at this
 have R:=s.fz;intro a x c h;induction h with
 |u=>exact .u|v=>exact .v|agg y h m=>cases c with|agg c=>exact .agg y λi a x d l=>m i a x d l (c _ (am_ d))
 |aJ y h m=>cases c with|aJ c=>exact .aJ y λi a x d l=>m i a x d l (c _ (am_ d))
 |nil z=>exact .nil z|sl B C f E h F m =>cases c with|sl c=>exact .sl B C f E (λi j row a d l=>⟨I,(h i j row a d l).2⟩) λi j row a d l=>m i j row a d l (c _ (am_ d) _ (am_ l))
 |ip h F m =>cases c with|ip c=>exact .ip (λi a d=>⟨I,(h i a d).2⟩) λi a d=>m i a d (c _ (am_ d))
 |ob b z G J f =>cases c with|ob e =>rw[<-q _ e b];exact .ob (n _ e b) z I I f
 |pt b =>cases c with|pt e=>rw[<-q _ e b];exact .pt (n _ e b)
 |mp b =>cases c with|mp e=>rw[<-q _ e b];exact .mp (n _ e b)
 |yl b =>cases c with|yl e=>rw[<-q _ e b];exact .yl (n _ e b)
 |lR=>exact .lR|gr b J f =>cases c with|gr e=>rw[<-q _ e b];exact .gr (n _ e b) I f
 |fn d l S T K L =>cases c with|fn M P=>exact .fn d l (λi a x r A=>K i a x r A (M _ (am_ r))) λi a x r A=>L i a x r A (P _ (am_ r))
structure FY(so:List (Nat×Ob))(N:Nat)(T:ah):Prop where
 le:N<=T.nx
 get:∀j o,fJ so j=some o->j<N/\T.get j=some o/\kH N o/\∀J,o≠.fo J
 all:∀j,j<N->∃o,fJ so j=some o
theorem aF.same(h:aF P Y f args (aw so N) r (aw so N))(y:FY so N T)(q:∀a∈args,eE N a)(hr:eE N r):aF P Y f args T r T:=by
 let⟨l,S⟩:∃l:ah,l=⟨λk=>if k<T.nx then T.get k else none,T.nx⟩:=⟨_,rfl⟩;have get':∀k o,l.get k=some o->k<T.nx/\T.get k=some o:=λk o c=>by rw[S]at c;have c:(if k<T.nx then T.get k else none)=some o:=c;split at c;grind;grind
 have IL:l.nx=T.nx:=I;have V:∀k o,k<T.nx->T.get k=some o->l.get k=some o:=λk o c h=>by rw[S];show(if k<T.nx then T.get k else none)=some o;rw[if_pos c];exact h
 have z:=y.le;have G:∀k,k<N->dV id N l.nx k=k:=λk c=>sv c;have hf:Fits id (aw so N) (aw so N) l l:=by refine⟨λi j _ _ e=>e,λj d=>by rw[IL];exact aD_ d z,λj o d=>?_,λk o c=>?_,.inr ⟨aa_ _,rfl⟩,.inr λj J d=>?_⟩;let⟨s,n,K,L⟩:=y.get j o d;exact⟨o,V j o (aD_ s z) n,lU.bu K L⟩;let⟨s,n⟩:=get' k o c;by_cases M:k<N;let⟨Q,C⟩:=y.all k M;let⟨q1,q2,q3,q4⟩:=y.get k Q C;obtain rfl:Q=o:=I;refine .inl ⟨k,Q,G k M,C,λgc g w b cp t _ R=>?_,λJ e=>e⟩;have E:∀k,k<N->dV id (aw so N).nx l.nx k=k:=G;exact fm.bu (B:=N) (λk c q=>by have:=t.al k q;rwa[E k c]at this) (λk c q=>by have:=t.ob k q;rwa[E k c]at this) (λk c q=>by have:=t.cp k q;rwa[E k c]at this) t.fz q3 q4 (λc h=>aN.back E t c h) R;exact .inr ⟨I,λj d e=>M (by rw[<-e];exact d),c⟩;let⟨_,_,_,L⟩:=y.get j _ d;exact absurd rfl (L J)
 have W:=h.frame hf rfl (λi a b s n=>by rw[s]at n;cases oJ_ n;exact Rn.bu (q _ (am_ s))) λgc g w x t R=>aN.back (N:=N) (o:=dV id (aw so N).nx l.nx) G t hr R;refine⟨W.1,λF m A g u w hF hS hA=>(W.2 F m A g u w hF (hS.forget I λj p d _=>(get' j p d).2) hA).mono ?_⟩;rintro e w'⟨v,g',rfl,s,n,K⟩;refine⟨v,g',rfl,s,n.forget I λj p d aS=>?_,K⟩;have:=n.al j aS;exact V j p I d
def D.H5{f:QO}{g:FuncId}{args:List AV}(b:aF P Y g args (aw so N) r (aw so N))(h:fp (f.ev U.tm) (jX.map (·.ev U.tm))=some (g,args))(c:FY so N T)(d:∀a∈args,eE N a)(e:eE N r):D P Y dr (.call f jX) U T r T :=D.call h (b.same c d e) λ_=>rfl
end
theorem D.KK{k:Nat}{es:List (Value×AV)}{m:Int}{a:AV}(h:x.ev U.tm=.mp k)(j:S.get k=some (.mp es))(l:qP es)(hi:i.ev U.tm=.v (.int .i64 m))(p:b.ev U.tm=a):D P Y true (.ph x i b) U S (.v undef) (S.set k (some (.mp (DQ es m a)))):=by intro n o q;obtain⟨t,u,v,y,B,C,E,d,rfl,rfl,rfl,r,s⟩:=JD q;rw[aU]at h hi p;have e:∀z∈[u,v,y],(U.only (dW o)).ev z=U.ev z:=λz w=>gL λt A=>gM (by rw[d];simp[Op.operands,<-A];simpa using w);exact⟨(P_ d r s I j l (by rw[e v aB];exact hi) I).ops λc e=>I,λf=>(by rw[d]at f;cases f),λg=>by rw[d]at g;cases g⟩
theorem H.KK{rd:Bool}{n:Nat}{Q:Exit->AA->ah->Prop}{l:List QI}{K:List gE}{O:Hd}{T:Type}{f:T->AV}{kv:List (Int×T)}{g:Option (Nat×Bool)}{k:Nat}{m:Int}{v:T}(c:bD U.tm g=some true)(e:x.ev U.tm=.mp k)(j:S.get k=some (.mp (O.h (dX f) kv)))(hi:i.ev U.tm=.v (.int .i64 m))(o:b.ev U.tm=f v)(p:∀a,a=g9 kv m v->H P Y rd n Q (.bk true l K) (bW d U (.v undef)) (S.set k (some (.mp (O.h (dX f) a))))):H P Y rd n Q (.bk true (⟨d,g,.ph x i b⟩::l) K) U S:=by have h:=D.KK (P:=P) (Y:=Y) e j (by rw[O.eq];exact uD) hi o;rw[O.eq,JE,<-O.eq (dX f)]at h;exact H.op (i:=⟨d,g,.ph x i b⟩) c h (p _ rfl)
end Go.Proofs.YtbdcmpknicjopaaGreat
