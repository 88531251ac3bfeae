import Derived.Test.YtbdcmpknicjopaaGreatTb16
namespace Go.Proofs.YtbdcmpknicjopaaGreat
set_option linter.all false
set_option maxRecDepth 100000
open Go.RowKit Proofs.Tryz
variable{E:List (Tm×Tm)}{N:aT}{O:Hd}{Y:World}{c:Nat->Nat}{cl:List Nat}{n:Nat}{zzD:List (Nat×Nat)}
section
attribute [local irreducible] ao aF D H
def atY:=aD func58 call58
def jt:List Nat:=[5,0,17,58,66,4,3,2,16,18,15,50,57,59,56,7,65,67,64,9,11,76]
def fU(_:Unit):AV:=.agg []
theorem tX{B:Nat}{O:Hd}{kv:List (Int×Unit)}:kH B (.mp (O.h (dX fU) kv)):=by rw[O.eq];intro e b;obtain⟨p,_,rfl⟩:=aB_.1 b;exact .agg λa c=>by cases c
def DV(kv:List (Int×Unit))(v:Int):Bool:=(aI kv v).isSome
theorem Qo(kv:List (Int×Unit))(i v:Int):DV (g9 kv i ()) v=(DV kv v||i==v):=by unfold DV;rw[c_];by_cases h:i=v;rw[if_pos h];simp[h];rw[if_neg h];simp[h]
theorem Zd(b:List Bd)(hl:b.length<=1099511627776)(T:∀x∈b,x.ok):ab Y 58 [bf O b] (.v (.bool (nh b))):=by
 let⟨R,g⟩:=aq (nh b);rw[<-g];unfold nh at g;let⟨AP,B⟩:=aq (u7 b);rw[<-B]at g;refine st atY jt .v ?_;refine H.int rfl (D.len rfl) λm C=>?_;rw[az]at C;refine Z jt ?_;refine H.Qp O fU rfl rfl λA5 W=>?_;refine Z jt ?_;refine H.int rfl (D.len rfl) λm1 dg=>?_;rw[az]at dg;refine Z jt ?_;refine H.ic (σ:=Int×List (Int×Unit)) 1 1 [] (λp=>[(0,bf O b),(3,.mp 0),(15,bf O b),(16,.v (.int .i64 m1)),(17,.v (.int .i64 p.1))]) [] (λp=>[(0,.mp (O.h (dX fU) p.2))]) (λp=>∃(k:Nat) (E:Option Bd),p.1=k/\k<=b.length/\R=(lu Mm P4 E (b.drop k)&&AP)/\Cy b k E/\∀v,DV p.2 v=kh (b.take k) v) (λp=>b.length-p.1.toNat) (0,A5) ⟨0,none,rfl,aB,by simpa using g,.inl ⟨rfl,rfl⟩,λv=>by rw[W];rfl⟩ rfl (by exact⟨sq,rfl,⟨.inl ⟨_,rfl,.same tX⟩,trivial⟩,rfl,rfl,rfl⟩) ?_;rintro⟨i,h⟩ ⟨k,E,F,eX,a,qX,n⟩;simp only at F n;clear g;refine Z jt ?_;by_cases au:k<b.length
 ·let⟨x,e,G⟩:=aA au;let⟨J,K⟩:=T x (aW e);have L:∀v,(kh (b.take k) v||x.v==v)=kh (b.take (k+1)) v:=λv=>by unfold kh;rw[ca_,e];simp
  rw[G,j6]at a;have f:=Us (Y:=Y) (O:=O) x.t J;let⟨d,o,r,s,w⟩:=x;dsimp only at f L;rw[Mm]at a;dsimp only at a;let⟨V,P7⟩:=aq (cK ⟨o,r,s,w⟩);rw[<-P7]at f a;rcases qX with⟨rfl,rfl⟩|⟨⟨yv,yk,yi,yn,ya⟩,hkp,hy,rfl⟩
  ·simp only[AW,bF_]at a;repeat' first|refine og jt (D.bh F e) ?_|refine bg jt (D.bM rfl f ⟨bI (O:=O) ⟨o,r,s,w⟩,trivial⟩) (λ_=>?_) λ_=>?_|refine H.ph (v:=()) rfl rfl rfl rfl rfl λM N=>?_;refine Z jt ?_|refine cg jt (λc=>?_) λc=>?_|refine lg jt λm C=>?_|refine ag jt λ_ _=>?_|refine xG jt ?_|refine rG jt ?_|refine fq ?_
   all_goals first|omega|refine aL ?_;rw[a,decide_eq_false (show¬0<=d by omega)];rfl|refine aL ?_;rw[a,decide_eq_false (show¬d<=1048576 by omega)];simp;done|refine aL ?_;rw[a,show V=false by assumption];simp;done|refine H.bO (_,M) [] ?_ ?_ (by exact⟨sq,rfl,⟨.inl ⟨_,rfl,.same tX⟩,trivial⟩,rfl,rfl,rfl⟩);refine⟨0+1,some _,by simp only;omega,X,?_,j7 e,λv=>by simp only;rw[N,Qo,n,L]⟩;rw[a,show V=true by assumption,decide_eq_true (show 0<=d by omega),decide_eq_true (show d<=1048576 by omega)];rfl;simp only;omega
  ·simp only[AW,P4]at a;repeat' first|refine og jt (D.bh F e) ?_|refine og jt (D.ind rfl rfl (eZ (l:=b) (k:=k-1) X hy) (ec λ_=>rfl)) ?_|refine bg jt (D.bM rfl f ⟨bI (O:=O) ⟨o,r,s,w⟩,trivial⟩) (λ_=>?_) λ_=>?_|refine H.ph (v:=()) rfl rfl rfl rfl rfl λM N=>?_;refine Z jt ?_|refine cg jt (λc=>?_) λc=>?_|refine lg jt λm C=>?_|refine ag jt λ_ _=>?_|refine xG jt ?_|refine rG jt ?_|refine fq ?_
   all_goals first|omega|refine aL ?_;rw[a,decide_eq_false (show¬0<=d by omega)];rfl|refine aL ?_;rw[a,decide_eq_false (show¬d<=1048576 by omega)];simp;done|refine aL ?_;rw[a,decide_eq_false (show¬yv<d by omega)];simp;done|refine aL ?_;rw[a,show V=false by assumption];simp;done|refine H.bO (_,M) [] ?_ ?_ (by exact⟨sq,rfl,⟨.inl ⟨_,rfl,.same tX⟩,trivial⟩,rfl,rfl,rfl⟩);refine⟨k+1,some _,by simp only;omega,X,?_,j7 e,λv=>by simp only;rw[N,Qo,n,L]⟩;rw[a,show V=true by assumption,decide_eq_true (show 0<=d by omega),decide_eq_true (show d<=1048576 by omega),decide_eq_true (show yv<d by omega)];rfl;simp only;omega
 rw[al_ X,sm,ay_,B,u7]at a;have CA:∀v,DV h v=kh b v:=λv=>by rw[n,aW_ X]
 clear B n W;repeat' first|refine H.int rfl (D.len rfl) λm2 jb=>?_;rw[az]at jb;refine Z jt ?_|refine cg jt (λc=>?_) λc=>?_|refine xG jt ?_
 all_goals first|omega|skip
 refine bE 1 1 [] (λj=>[(3,.mp 0),(56,bf O b),(57,.v (.int .i64 m2)),(58,.v (.int .i64 j))]) [] (λ_=>[(0,.mp (O.h (dX fU) h))]) b.length (λq=>R=(b.drop q).all λx=>(varsOf [x.t]).all λv=>!kh b v) (by simpa using a) (hC:=by exact⟨sq,rfl,⟨.inl ⟨_,rfl,.same tX⟩,trivial⟩,rfl,rfl,rfl⟩) λj q hj hq y=>?_;clear a;refine Z jt ?_;by_cases ko:q<b.length
 ·let⟨x,e,G⟩:=aA ko;let⟨J,K⟩:=T x (aW e);rw[G,aJ_]at y;have Q:(aZ [x.t]).length<=1099511627776:=by rw[aZ,aZ,aG_];exact az_ (pZ _) K
  have f:=YW (Y:=Y) (O:=O) x.t J (by first|exact az_ (pZ _) K);have xw:(varsOf [x.t]).length<=1099511627776:=az_ (lW _ _) Q;let⟨A,m9⟩:=aq (varsOf [x.t]);rw[<-m9]at y f xw;let⟨d,o,r,s,w⟩:=x;repeat' first|refine og jt (D.bh hj e) ?_|refine og jt (D.bM rfl f ⟨bI (O:=O) ⟨o,r,s,w⟩,trivial⟩) ?_|refine H.int rfl (D.len rfl) λm3 KR=>?_;rw[az]at KR;refine Z jt ?_|refine cg jt (λc=>?_) λc=>?_|refine xG jt ?_|refine fq ?_
  all_goals first|omega|skip
  refine bE 2 2 [] (λt=>[(3,.mp 0),(56,bf O b),(57,.v (.int .i64 m2)),(58,.v (.int .i64 j)),(64,aY O aR false A),(65,.v (.int .i64 m3)),(66,.v (.int .i64 t))]) [] (λ_=>[(0,.mp (O.h (dX fU) h))]) A.length (λk=>R=(((A.drop k).all λv=>!kh b v)&&(b.drop (q+1)).all λx=>(varsOf [x.t]).all λv=>!kh b v)) (by simpa using y) (hC:=by exact⟨sq,rfl,⟨.inl ⟨_,rfl,.same tX⟩,trivial⟩,rfl,rfl,rfl⟩) λt k ht hk z=>?_;clear y;refine Z jt ?_;by_cases sX:k<A.length
  ·let⟨v,hv,P6⟩:=aA sX;rw[P6,aJ_,<-CA v]at z;repeat' first|refine og jt (D.bh ht hv) ?_|refine H.look rfl rfl rfl rfl (λu S=>?_) λS=>?_<;>refine Z jt ?_|refine cg jt (λc=>?_) λc=>?_|refine ag jt λ_ _=>?_|refine xG jt ?_|refine rG jt ?_|refine fq ?_
   all_goals first|omega|refine aL ?_;rw[z,show DV h v=true by rw[DV,S];rfl];rfl|exact cw _ [] (k+1) (by rw[z,show DV h v=false by rw[DV,S];rfl];rfl) (hC:=by exact⟨sq,rfl,⟨.inl ⟨_,rfl,.same tX⟩,trivial⟩,rfl,rfl,rfl⟩)
  ·rw[al_ X,bk_,ay_]at z;repeat' first|refine cg jt (λc=>?_) λc=>?_|refine ag jt λ_ _=>?_|refine xG jt ?_
   all_goals first|omega|exact cw _ [] (q+1) z (hC:=by exact⟨sq,rfl,⟨.inl ⟨_,rfl,.same tX⟩,trivial⟩,rfl,rfl,rfl⟩)
 ·skip;repeat' first|refine cg jt (λc=>?_) λc=>?_|refine xG jt ?_|refine fq ?_
  all_goals first|omega|rw[y,al_ X];exact aL rfl
end
section
def tY:List Nat:=[1,3,2,0,23,28,48]
attribute [local irreducible] ao aF D H
def Fi.ok(f:Fi):Prop:=f.ids.length<=1099511627776
theorem KS{r:Int}{l:List Int}(h:0<=r/\r<40/\1<=(l.length:Int)/\(l.length:Int)<=4):tW ⟨r,l⟩=u6 [] l:=by grind[tW]
theorem JL{r:Int}{l:List Int}(h:r<0\/40<=r\/(l.length:Int)<1\/4<(l.length:Int)):tW ⟨r,l⟩=false:=by grind[tW]
theorem aci(f:Fi)(h:f.ok):ab Y 123 [fi O f] (.v (.bool (tW f))):=by
 let⟨r,l⟩:=f;have y:l.length<=1099511627776:=h;have c:=@KS r l;have d:=@JL r l;let⟨R,g⟩:=aq (tW ⟨r,l⟩);rw[<-g]at c d⊢;clear g;refine st aoZ wC .v ?_;repeat' first|refine cg wC (λb=>?_) λb=>?_|refine lg wC λm z=>?_|refine fq ?_
 all_goals first|exact aL (d X).symm|skip
 have j:R=u6 [] l:=c X;clear c d;refine bE 1 1 [] (λi=>[(1,.pt 0 2 0 0),(26,aY O aR false l),(27,.v (.int .i64 m)),(28,.v (.int .i64 i))]) [] (λ_=>[(0,.arr 2 [IM O ⟨r,l⟩] 0 true)]) l.length (λk=>R=u6 (l.take k) (l.drop k)) I λi k n A a=>?_;clear j;refine Z wC ?_;by_cases o:k<l.length
 ·let⟨x,p,s⟩:=aA o;rw[s,u6]at a;have t:l.take k++[x]=l.take (k+1):=I;rw[t]at a;have e:=P0 (Y:=Y) (O:=O) (l.take k) x I;let⟨B,u⟩:=aq ((l.take k).contains x);rw[<-u]at e a;let⟨q,v⟩:=aq (l.take k);rw[<-v]at e;repeat' first|refine og wC (D.bh n p) ?_|refine H.gen (aY O aR false) rfl (D.B4 rfl rfl rfl (λ_=>rfl) aC X X) λw C=>?_;cases(I:w=q);refine Z wC ?_|refine bg wC (pl e) (λ_=>?_) λ_=>?_|refine cg wC (λb=>?_) λb=>?_|refine ag wC λ_ _=>?_|refine xG wC ?_|refine rG wC ?_|refine fq ?_
  all_goals first|omega|refine aL ?_;rw[a,decide_eq_false (show¬1<=x by omega)];rfl|refine aL ?_;rw[a,show B=true by grind];simp;done|exact cw _ [] (k+1) I
 ·skip;repeat' first|refine cg wC (λb=>?_) λb=>?_|refine xG wC ?_|refine fq ?_
  all_goals first|omega|rw[a,al_ X,u6];exact aL rfl
theorem aha(f:Fi)(j:f.ok):ab Y 185 [fi O f] (.v (.bool (tW f))):=by
 let⟨r,l⟩:=f;have z:l.length<=1099511627776:=j;have c:=@KS r l;have d:=@JL r l;let⟨R,g⟩:=aq (tW ⟨r,l⟩);rw[<-g]at c d⊢;clear g;refine st ao0 tY .v ?_;repeat' first|refine cg tY (λb=>?_) λb=>?_|refine lg tY λm h=>?_|refine fq ?_
 all_goals first|exact aL (d X).symm|skip
 have n:R=u6 [] l:=c X;clear c d;refine bE 1 1 [] (λi=>[(1,.pt 0 2 0 0),(3,.v (.int .i64 i))]) [] (λ_=>[(0,.arr 2 [IM O ⟨r,l⟩] 0 true)]) l.length (λk=>R=u6 (l.take k) (l.drop k)) I λi k o A a=>?_;clear n;refine Z tY ?_;by_cases p:k<l.length
 ·let⟨x,s,t⟩:=aA p;rw[t,u6]at a;have u:l.take k++[x]=l.take (k+1):=I;rw[u]at a;have e:=ai4 (Y:=Y) (O:=O) (l.take k) x I;let⟨B,v⟩:=aq ((l.take k).contains x);rw[<-v]at e a;let⟨q,w⟩:=aq (l.take k);rw[<-w]at e;repeat' first|refine og tY (D.bh o s) ?_|refine H.gen (aY O aR false) rfl (D.B4 rfl rfl rfl (λ_=>rfl) aC X X) λy C=>?_;cases(I:y=q);refine Z tY ?_|refine bg tY (pl e) (λ_=>?_) λ_=>?_|refine cg tY (λb=>?_) λb=>?_|refine lg tY λm h=>?_|refine ag tY λ_ _=>?_|refine xG tY ?_|refine rG tY ?_|refine fq ?_
  all_goals first|omega|refine aL ?_;rw[a,decide_eq_false (show¬1<=x by omega)];rfl|refine aL ?_;rw[a,show B=true by grind];simp;done|exact cw _ [] (k+1) I
 ·skip;repeat' first|refine cg tY (λb=>?_) λb=>?_|refine lg tY λm h=>?_|refine xG tY ?_|refine fq ?_
  all_goals first|omega|rw[a,al_ X,u6];exact aL rfl
end
structure CI(cl:List Nat)(c:Nat->Nat)(n:Nat):Prop where
 len:cl.length=n
 at_:∀i,i<n->cA cl i=c i
 cc:∀i,i<n->c i<n/\c (c i)=c i
def cZ(N:aT)(cl:List Nat)(C:Nat):Option Nat:=(List.range N.length).find? λi=>decide (cA cl i=C)&&decide ((tn N i).k≠1)
theorem Gd{N:aT}(h:CI cl c N.length)(C:Nat):jM N c C (cZ N cl C):=by unfold cZ;cases b:(List.range N.length).find? λi=>decide (cA cl i=C)&&decide ((tn N i).k≠1) with|none =>intro i d e;have:=List.find?_eq_none.1 b i (aU_.2 d);rw[h.at_ i d]at this;simpa[e] using this|some s =>have a:=List.find?_some b;have f:=aU_.1 (cb_ b);rw[h.at_ s f]at a;simp only[as_,decide_eq_true_eq]at a;exact⟨f,a.1,a.2⟩
def rH(f:List Nat->Nat->Nat->Option (Bool×List Nat)):List (Nat×Nat)->List Nat->Option (Bool×List Nat)|[],cl=>some (true,cl)|p::l,cl=>match f cl p.1 p.2 with|none=>none|some (false,a)=>some (false,a)|some (true,a)=>rH f l a
def Qr(N:aT)(i k:Nat):Bool:=(tn N i).k==(tn N k).k&&(tn N i).i==(tn N k).i&&decide ((tn N i).n.toList=(tn N k).n.toList)&&decide ((ks N i).length=(ks N k).length)
def DW(cl:List Nat)(x y:Nat):List Nat:=cl.map λz=>if z=y then x else z
def lx(N:aT):Nat->List Nat->Nat->Nat->Option (Bool×List Nat)|0,_,_,_=>none|m+1,cl,a,b=>if a<N.length/\b<N.length then if cA cl a=cA cl b then some (true,cl) else match cZ N cl (cA cl a),cZ N cl (cA cl b) with|some i,some k=>if Qr N i k then rH (lx N m) ((ks N i).zip (ks N k)) (DW cl (cA cl a) (cA cl b)) else some (false,DW cl (cA cl a) (cA cl b))|_,_=>some (true,DW cl (cA cl a) (cA cl b)) else none
theorem WB{b:Nat}(a:c b=b)(h:b<n):0<iJ c n:=by have:=A7 (c:=c) (d:=λi=>i+1) (λi e=>X) a X n h;omega
theorem CI.merge(h:CI cl c n){a b:Nat}(f:c a=a)(g:a<n)(j:a≠b):CI (DW cl a b) (iS c a b) n:=by refine⟨by unfold DW;rw[bo_];exact h.len,λi d=>?_,λi d=>?_⟩;have k:=h.at_ i d;have l:=KT (up:=cl) (i:=i) (by rw[h.len];exact d);unfold cA DW iS;rw[aX_,l,<-k];rfl;unfold iS;split;rw[f,if_neg j];exact⟨g,rfl⟩;rename_i e;rw[(h.cc i d).2,if_neg e];exact⟨(h.cc i d).1,rfl⟩
theorem acj:∀(d:Nat){cl:List Nat}{c:Nat->Nat}{a b:Nat}{P:List (Nat×Nat)},CI cl c N.length->jS E N zzD c ((a,b)::P)->iJ c N.length<=d ->∃r l,lx N (d+1) cl a b=some (r,l)/\(r=true->∃c',CI l c' N.length/\jS E N zzD c' P/\iJ c' N.length<=iJ c N.length)/\(r=false->¬∃f,yG E f):=by intro d;induction d with|zero =>intro cl c a b P g j B;let⟨m,_,_⟩:=j.pX _ (.head _);have:=WB (g.cc a m).2 (g.cc a m).1;omega|succ d ih =>
  intro cl c a b P g j B;let⟨m,C,uF⟩:=j.pX _ (.head _);simp only at m C uF;rw[lx,if_pos ⟨m,C⟩,g.at_ a m,g.at_ b C];by_cases e:c a=c b;rw[if_pos e];exact⟨true,cl,rfl,λ_=>⟨c,g,j.pop e,aa_ _⟩,λh=>by cases h⟩;rw[if_neg e];let⟨la,ca⟩:=g.cc a m;let⟨lb,cb⟩:=g.cc b C;have n:=Gd g (c a);have o:=Gd g (c b);have q:=g.merge (b:=c b) ca la e;have au:iJ (iS c (c a) (c b)) N.length<iJ c N.length:=by refine A7 (λi=>KU e ca) cb (λG=>?_) _ lb;unfold iS at G;rw[cb,if_pos rfl]at G;exact e G
  have simple:∀{x y:Option Nat},jM N c (c a) x->jM N c (c b) y->pj N x y=[]->(∀s t,x=some s->y=some t->alike (tn N s) (tn N t))->jS E N zzD (iS c (c a) (c b)) P:=λ{x y}hx hy hn F=>by have:=j.merge hx hy F;rwa[hn,aL_]at this
  cases ea:cZ N cl (c a) with|none =>rw[ea]at n;exact⟨true,_,rfl,λ_=>⟨_,q,simple n o rfl (λs t h=>by cases h),Nat.le_of_lt au⟩,λh=>by cases h⟩|some i =>rw[ea]at n;cases eb:cZ N cl (c b) with|none =>rw[eb]at o;exact⟨true,_,rfl,λ_=>⟨_,q,simple n o rfl (λs t _ h=>by cases h),Nat.le_of_lt au⟩,λh=>by cases h⟩|some k =>
    rw[eb]at o;let⟨J,u,v⟩:=n;let⟨K,w,z⟩:=o;have F:Qr N i k=true↔alike (tn N i) (tn N k):=by rw[<-DX];unfold Qr tp;rw[oh j.g J,oh j.g K]
    simp only;cases L:Qr N i k with|false=>exact⟨false,_,rfl,λh=>(by cases h),λ_=>j.ae6 (s:=i) (t:=k) ⟨J,u,v⟩ ⟨K,w,z⟩ λh=>by rw[F.2 h]at L;cases L⟩|true =>
     rw[if_pos rfl];have A:=j.merge (sa:=some i) (sb:=some k) ⟨J,u,v⟩ ⟨K,w,z⟩ (λs t h1 h2=>by rw[<-oJ_ h1,<-oJ_ h2];exact F.1 L);have A:jS E N zzD (iS c (c a) (c b)) ((ks N i).zip (ks N k)++P):=A;have key:∀(Q:List (Nat×Nat)){cl:List Nat}{c:Nat->Nat},CI cl c N.length->jS E N zzD c (Q++P)->iJ c N.length<=d ->∃r l,rH (lx N (d+1)) Q cl=some (r,l)/\(r=true->∃c',CI l c' N.length/\jS E N zzD c' P/\iJ c' N.length<=iJ c N.length)/\(r=false->¬∃f,yG E f):=by intro Q;induction Q with|nil=>intro cl c g j B;exact⟨true,cl,rfl,λ_=>⟨c,g,j,aa_ _⟩,λh=>by cases h⟩|cons p Q M =>intro cl c g j B;let⟨x,y⟩:=p;let⟨r,l,k1,k2,k3⟩:=ih g j B;rw[rH];simp only[k1];cases r with|false=>exact⟨false,l,rfl,λh=>(by cases h),k3⟩|true =>let⟨c',q,A,hn⟩:=k2 rfl;let⟨r,rI,R,S,T⟩:=M q A X;exact⟨r,rI,R,λh=>let⟨V,q1,W,q3⟩:=S h;⟨V,q1,W,X⟩,T⟩
     let⟨r,l,R,S,T⟩:=key _ q A X;exact⟨r,l,R,λh=>let⟨V,q1,W,q3⟩:=S h;⟨V,q1,W,X⟩,T⟩
inductive wD:List (Tm×Tm)->aT->List Nat->Bool->aT->List Nat->Prop|nil {N:aT}{cl:List Nat}:wD [] N cl true N cl|no {a b:Tm}{l:List (Tm×Tm)}{N:aT}{cl dw:List Nat}{m:Nat}(h:lx (b_ (b_ N a).1 b).1 m (cl++List.range' N.length ((b_ (b_ N a).1 b).1.length-N.length)) (b_ N a).2 (b_ (b_ N a).1 b).2=some (false,dw)) :wD ((a,b)::l) N cl false (b_ (b_ N a).1 b).1 dw|go {a b:Tm}{l:List (Tm×Tm)}{N N':aT}{cl dw rI:List Nat}{m:Nat}{r:Bool}(h:lx (b_ (b_ N a).1 b).1 m (cl++List.range' N.length ((b_ (b_ N a).1 b).1.length-N.length)) (b_ N a).2 (b_ (b_ N a).1 b).2=some (true,dw))(k:wD l (b_ (b_ N a).1 b).1 dw r N' rI):wD ((a,b)::l) N cl r N' rI
mutual def vi:Tm->Prop|⟨k,i,n,a⟩=>(k=1->0<=i)/\tL a def tL:List Tm->Prop|[]=>True|x::l=>vi x/\tL l end
def B5(N:aT):Prop:=∀i,i<N.length->(tn N i).k=1->0<=(tn N i).i
theorem B5.push{N:aT}(h:B5 N){t:Tm}{l:List Nat}(c:t.k=1->0<=t.i):B5 (N++[(t,l)]):=by
 intro i b a;by_cases e:i<N.length;have d:∀i,i<N.length->(N++[(t,l)])[i]?=N[i]?:=λi b=>bi_ b;rw[(fM d e).1]at a⊢;exact h i e a;have:i=N.length:=by rw[ar_,be_]at b;omega
 subst this;rw[ng.1]at a⊢;exact c a
mutual theorem JM:∀(N:aT)(t:Tm),B5 N->vi t->B5 (b_ N t).1|N,⟨k,i,n,a⟩,h,b=>by rw[vi]at b;rw[b_];split;exact h;exact(NC N a h b.2).push b.1;theorem NC:∀(N:aT)(l:List Tm),B5 N->tL l->B5 (cu N l).1|N,[],h,_=>by rw[cu];exact h|N,x::l,h,b=>by rw[tL]at b;rw[cu];exact NC _ l (JM N x h b.1) b.2;end
theorem ahb{m:Nat}(h:cl.length=n)(i:Nat):cA (cl++List.range' n m) i=if i<n then cA cl i else i:=by unfold cA;by_cases e:i<n;rw[if_pos e,bi_ X];rw[if_neg e,bu_ X,h];by_cases a:i-n<m;rw[List.getElem?_range' a];simp;omega;rw[dr_ (by simp;omega)];rfl
theorem UR{E:List (Tm×Tm)}:∀(l:List (Tm×Tm))(done:List (Tm×Tm))(N:aT)(cl:List Nat)(zzD:List (Nat×Nat))(c:Nat->Nat),(∀e∈l,e∈E/\(eY e.1/\vi e.1)/\eY e.2/\vi e.2)->jS E N zzD c []->CI cl c N.length->B5 N->(∀p∈zzD,p.1<N.length/\p.2<N.length) ->(∀e∈done,∃p∈zzD,p.1<N.length/\p.2<N.length/\tn N p.1=e.1/\tn N p.2=e.2) ->∃b N' g,wD l N cl b N' g/\(b=false->¬∃f,yG E f)/\(b=true->∃w c',jS E N' w c' []/\CI g c' N'.length/\B5 N'/\∀e∈done++l,∃p∈w,p.1<N'.length/\p.2<N'.length/\tn N' p.1=e.1/\tn N' p.2=e.2)
 |[],done,N,cl,zzD,c,_,z,q,J,K,L=>⟨true,N,cl,.nil,λh=>(by cases h),λ_=>⟨zzD,c,z,q,J,by rw[aG_];exact L⟩⟩|(a,b)::l,done,N,cl,zzD,c,A,z,q,J,K,L=>by
  let⟨e1,⟨w1,o1⟩,w2,o2⟩:=A (a,b) aB;simp only at w1 w2 o1 o2;let⟨M,P,x3⟩:=sy N a z.g w1;let⟨B,s,C⟩:=sy (b_ N a).1 b M.g w2;have t:=JM _ b (JM N a J o1) o2;have F:tn (b_ (b_ N a).1 b).1 (b_ N a).2=a:=by rw[B.tn P,x3]
  have u:(b_ N a).2<(b_ (b_ N a).1 b).1.length:=aD_ P B.le;have k:yc N (b_ (b_ N a).1 b).1:=M.trans B;have key:∀{r:Bool}{N':aT}{j:List Nat}{d:aT}{x y:Nat},d=(b_ (b_ N a).1 b).1->x=(b_ N a).2->y=(b_ (b_ N a).1 b).2 ->(∃m,lx d m (cl++List.range' N.length (d.length-N.length)) x y=some (false,j)/\r=false/\N'=d)\/(∃m g,lx d m (cl++List.range' N.length (d.length-N.length)) x y=some (true,g)/\wD l d g r N' j)->wD ((a,b)::l) N cl r N' j:=by rintro r N' j d x y rfl rfl rfl(⟨m,h,rfl,rfl⟩|⟨m,g,h,n⟩);exact .no h;exact .go h n
  let⟨d,Q⟩:=aq (b_ (b_ N a).1 b).1;let⟨x,R⟩:=aq (b_ N a).2;let⟨y,S⟩:=aq (b_ (b_ N a).1 b).2;have key:∀{r:Bool}{N':aT}{j:List Nat},(∃m,lx d m (cl++List.range' N.length (d.length-N.length)) x y=some (false,j)/\r=false/\N'=d)\/(∃m g,lx d m (cl++List.range' N.length (d.length-N.length)) x y=some (true,g)/\wD l d g r N' j)->wD ((a,b)::l) N cl r N' j:=λh=>key Q R S h;rw[<-Q]at t F u k s C;rw[<-R]at F u;rw[<-S]at s C;clear Q R S B M P x3;have g:∀i,i<N.length->c i<N.length:=λi o=>(q.cc i o).1;have oL:=z.grow (N':=d) (c':=λi=>if i<N.length then c i else i) K k.g k.le k.pre (λi o=>⟨if_pos o,g i o⟩) (λi o=>if_neg X) u s (by rw[F,C];exact e1);have A8:CI (cl++List.range' N.length (d.length-N.length)) (λi=>if i<N.length then c i else i) d.length:=by have hle:=k.le;refine⟨by rw[ar_,List.length_range',q.len];omega,λi o=>?_,λi o=>?_⟩;rw[ahb q.len];by_cases e:i<N.length;simp only[if_pos e];exact q.at_ i e;simp only[if_neg e];by_cases e:i<N.length;simp only[if_pos e,if_pos (g i e)];exact⟨by have:=g i e;omega,(q.cc i e).2⟩;simp only[if_neg e];exact⟨o,trivial⟩
  let⟨r,j,j1,j2,j3⟩:=acj _ A8 oL (aa_ _);cases r with|false=>exact⟨false,_,_,key (.inl ⟨_,j1,rfl,rfl⟩),λ_=>j3 rfl,λh=>by cases h⟩|true =>let⟨c',nX,oe,_⟩:=j2 rfl;let⟨r,N',T,k1,k2,k3⟩:=UR l (done++[(a,b)]) d j ((x,y)::zzD) c' (λe h=>A e (by simp[h])) oe nX t (λp V=>by rcases ae_.1 V with rfl|V;exact⟨u,s⟩;let⟨v,n⟩:=K p V;have:=k.le;exact⟨aD_ v this,aD_ n this⟩) (λe h=>by rcases aN_.1 h with h|h;let⟨p,v,n,G,W,h5⟩:=L e h;have:=k.le;exact⟨p,by simp[v],aD_ n this,aD_ G this,by rw[k.tn n];exact W,by rw[k.tn G];exact h5⟩;cases ak_.1 h;exact⟨(x,y),aB,u,s,F,C⟩);exact⟨r,N',T,key (.inr ⟨_,j,j1,k1⟩),k2,λe=>by let⟨w,c',v,n,G,W⟩:=k3 e;exact⟨w,c',v,n,G,λe A=>W e (by simpa using A)⟩⟩
end Go.Proofs.YtbdcmpknicjopaaGreat
