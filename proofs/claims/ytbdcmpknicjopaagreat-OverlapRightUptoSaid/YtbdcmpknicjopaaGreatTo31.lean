import Derived.Test.YtbdcmpknicjopaaGreatTo30
namespace Go.Proofs.YtbdcmpknicjopaaGreat
set_option linter.all false
set_option maxRecDepth 100000
open Go.RowKit Proofs.Tryz
variable{B n sz:Nat}{K:List iu}{O:Hd}{P:Program}{Q:Exit->AA->ao->Prop}{S:ao}{T:Type}{U:World}{Y:AA}{dr ex:Bool}{l:List QI}{f:T->List AV}
section
attribute [local irreducible] aq aG D I
def XP:=aD func337 call337
def eY:=[0,1,7,2,8,9,6,16,22,31,68]
def Po(l:List Bd):jm B (.arr sz (O.h (List.map (bS O)) l) 0 ex):=jP λx _ a b=>mD x a b
theorem agB(l:List Bd):∀row∈O.h (List.map (bS O)) l,row.length=5/\row.all dv=true:=by rw[O.eq];intro row a;obtain⟨x,_,rfl⟩:=aE_.1 a;exact⟨rfl,rfl⟩
theorem awe(w:World)(a b:Addr)(g i j k:Nat)(l m:TypeId)(d c:Nat)(h1:a.block≠b.block)(h2:w.shape? a.block=some (l,d))(h3:w.shape? b.block=some (m,c))(h4:c≠0)(f:d≠0)(h5:w.frozen? b=false)(h6:w.frozen? {block:=b.block,off:=c }=false):(callFunc 365 #[.slice (some a) g i,.slice (some b) j k]).run prog w=.ok (.value (.bool false)) w:=by rw[run_callFunc_extern func365 (by kernel_rfl) (by kernel_rfl) (by kernel_rfl) (e:=Extern.SlicesOverlaps.overlaps f365.params f365.resultTypes) (by kernel_rfl)];have h:=zw9 (P:=prog) w 28 4 102 underlying28 5 λw=>by kernel_rfl a b g i j k h1 l m d c h2 h3 h4 f h5 h6;have e:Extern.SlicesOverlaps.overlaps f365.params f365.resultTypes=Extern.SlicesOverlaps.overlaps #[28,28] #[4]:=rfl;rw[e];simp only[Sem.run_bind,h,Result.andThen_ok]
set_option maxHeartbeats 4000000 in theorem adX(e:List Bd)(y:Bd)(j:Nat)(hj:j<e.length)(hl:e.length<=10000000000):aG prog U 337 [.gr 0 5 e.length,iv j,.sl true [bS O y]] (aw [(0,.arr 5 (O.h (List.map (bS O)) e) 0 false)] 1) (.gr 1 5 (e.length+1)) (aw [(1,.arr 5 (O.h (List.map (bS O)) (e.take j++[y]++e.drop j)) 0 false)] 2):=by
 refine aG.amJ (k:=0) (rows:=O.h (List.map (bS O)) e) rfl X aA.symm λc HE N Nh=>?_;rw[aA]at N;let⟨b,p⟩:=au (O.h (List.map (bS O)) e++HE);have P:b.length=c:=by rw[p,ay_,aA];exact N
 have J:b.take e.length=O.h (List.map (bS O)) e:=by rw[p,dV_ (by rw[aA];exact aj_ _),aW_ (by rw[aA];exact aj_ _)]
 have q:∀row∈b.take e.length,row.length=5/\row.all dv=true:=by rw[J];exact agB e
 have x:∀row∈b,row.length=5:=by rw[p];intro row a;rcases aO_.1 a with a|a;exact(agB e row a).1;exact(Nh row a).1
 rw[<-p];let⟨n,hn⟩:=au e.length;rw[<-hn]at hj hl N J q⊢;let⟨i,u⟩:∃i:Int,i=j:=⟨_,rfl⟩;rw[<-u];let⟨W,Q⟩:=au (e.take j++[y]++e.drop j);rw[<-Q];have S:=awe;refine sc 1 2 XP ?_;clear p Nh;refine H eY ?_;refine I.Dl rfl rfl rfl rfl u X λo1 l1 c1 _ _ _=>?_;refine H eY ?_;refine b9 λm1 z=>?_;have z:m1=1:=z;refine H eY ?_;refine cn (λf=>?_) λf=>?_;omega;clear f;refine H eY ?_;refine lg eY λn2 dS=>?_;refine cn (λf=>?_) λf=>?_;omega;clear f;refine H eY ?_;refine ag eY λs hs=>?_;refine og eY (D.cap rfl) ?_;refine cn (λf=>?_) λf=>?_;have f:s>(c:Int):=f;have BB:c=n:=X;refine H eY ?_;refine I.arA rfl rfl rfl rfl u X ?_;refine H eY ?_;refine ag eY λs2 sL=>?_;refine ag eY λs3 Li=>?_;refine I.XL (m:=n+1-j) rfl rfl rfl rfl X X X X X rfl aJ λg fZ o ml=>?_;refine H eY ?_;refine I.aaL rfl rfl rfl rfl u X λo2 T Ah eJ=>?_;refine H eY ?_;have v:g.length=n+1:=by rw[o,ay_,aV_,bi_,bS_];omega
 refine I.Ni rfl rfl rfl jt ca_ X (aF_ _) λrow a=>by cases ae_.1 a;rfl λrow a=>by cases ae_.1 (bA_ a);rfl λh c3 d=>?_;have d:h=g.take o2++[bS O y].take (Nat.min [bS O y].length T)++g.drop (o2+Nat.min [bS O y].length T):=d;rw[show Nat.min [bS O y].length T=1 from cO_ (by rw[eJ,ml];simp;omega),show List.take 1 [bS O y]=[bS O y] from rfl]at d;have V:h.length=n+1:=by rw[d,ay_,ay_,aV_,bi_,v,bf_];omega
 refine H eY ?_;refine ag eY λs4 hs4=>?_;refine I.aaL (i:=j+1) rfl rfl rfl rfl X X λo3 l3 A Su=>?_;refine H eY ?_;refine I.Dl (i:=j) rfl rfl rfl rfl u X λo4 B c4 w C hc4=>?_;refine H eY ?_;have F:b.take n=b:=aW_ X;refine I.Ni rfl rfl rfl (OE rfl X) (by rw[aV_,bi_];omega) X (aF_ _) (λrow a=>x row (cB_ (bA_ a))) (λrow a=>(q row (by rw[F];exact cB_ (bA_ (bA_ a)))).2) λK c5 G=>?_;cases(X:fZ=n+1);have p:b=O.h (List.map (bS O)) e:=F.symm.trans J;have e4:(b.drop o4).take B=b.drop j:=by rw[w,C,aJ_];exact aW_ (by rw[bi_];omega)
 rw[e4,show Nat.min (b.drop j).length l3=(b.drop j).length from cO_ (by rw[bi_];omega),aW_ (l:=b.drop j) (aj_ _),bi_,A,aJ_]at G;have L:=aiA (E:=b) (R2:=g) (R3:=h) (R4:=K) (r:=bS O y) X (by rw[bN_]at o;rw[P,BB];exact o) (by rw[Ah,aJ_]at d;exact d) G;have Cn:K.take (n+1)=O.h (List.map (bS O)) W:=by rw[L,aW_ (by rw[ay_,ay_,aV_,bi_,bf_];omega),p,Q];simp only[O.eq,ba_,da_,dv_,aK_,aY_]
 have awg:n+1<=K.length:=by rw[L,ay_,ay_,aV_,bi_,bf_];omega
 refine I.wi eY 4 (by conv=>lhs;cbv) ?_;refine I.Aj (Cv.amI (t:=9) rfl rfl awg) ?_;rw[Cn];refine H eY ?_;refine fq ?_;exact⟨[(1,1)],.jz rfl rfl,⟨.inl ⟨_,rfl,.same (Po W)⟩,trivial⟩,rfl⟩;have f:¬s>(c:Int):=f;have BB:n+1<=c:=X;refine H eY ?_;refine ag eY λs5 hs5=>?_;refine I.arB (i:=n+1) rfl rfl rfl rfl X X X ?_;refine H eY ?_;refine ag eY λs6 hs6=>?_;refine I.Dl (i:=j+1) rfl rfl rfl rfl X X λo3 l3 c3 A Su Ao=>?_;refine H eY ?_;refine og eY (D.av8 rfl rfl rfl X aJ S) ?_;refine ag eY λs7 hs7=>?_;refine I.Dl (i:=j+1) rfl rfl rfl rfl X X λo4 B c4 w C hc4=>?_;refine H eY ?_;refine I.Dl (i:=j) rfl rfl rfl rfl u X λo5 M c5 ho5 hl5 hc5=>?_;refine H eY ?_;have z:Nat.min ((b.drop o5).take M).length B=n-j:=by rw[show Nat.min ((b.drop o5).take M).length B=B from Nat.min_eq_right (by rw[aV_,bi_];omega)];omega
 have pv:((b.drop o5).take M).take (n-j)=(b.drop j).take (n-j):=by rw[List.take_take,ho5,aJ_,show min (n-j) M=n-j from cO_ X]
 refine I.Ni rfl rfl rfl (OE rfl X) (by rw[aV_,bi_];omega) X (aF_ _) (λrow a=>x row (cB_ (bA_ a))) (λrow a=>(q row (by rw[z,pv,<-List.drop_take]at a;exact cB_ a)).2) λg c6 o=>?_;rw[z,pv]at o;have v:g.length=c:=by rw[o,ay_,ay_,aV_,aV_,bi_,bi_];omega
 refine H eY ?_;refine I.Dl (i:=j) rfl rfl rfl rfl u X λo7 l7 c7 ho7 hl7 hc7=>?_;refine H eY ?_;refine I.Ni rfl rfl rfl jt ca_ X (aF_ _) λrow a=>by cases ae_.1 a;rfl λrow a=>by cases ae_.1 (bA_ a);rfl λh c8 d=>?_;have d:h=g.take o7++[bS O y].take (Nat.min [bS O y].length l7)++g.drop (o7+Nat.min [bS O y].length l7):=d;rw[show Nat.min [bS O y].length l7=1 from cO_ (by rw[hl7];simp;omega),show List.take 1 [bS O y]=[bS O y] from rfl]at d;have V:h.length=c:=by rw[d,ay_,ay_,aV_,bi_,v,bf_];omega
 have L:=adS (R:=b) (R2:=g) (R3:=h) (n:=n) (r:=bS O y) hj X (by rw[w,aJ_]at o;exact o) (by rw[ho7,aJ_]at d;exact d);have Cn:h.take (n+1)=O.h (List.map (bS O)) W:=by rw[L,J,Q];simp only[O.eq,ba_,da_,dv_,aK_,aY_]
 refine I.wi eY 4 (by conv=>lhs;cbv) ?_;refine I.Aj (Cv.arz (t:=0) rfl rfl X X) ?_;rw[Cn];refine H eY ?_;refine fq ?_;exact⟨[(1,0)],.jz rfl rfl,⟨.inl ⟨_,rfl,.same (Po W)⟩,trivial⟩,rfl⟩
theorem Cv.amT{U:World}{n:Nat}{Y:AA}{S:ao}{T:Type}(f:T->List AV){t k:Nat}{rows:List (List AV)}(a:S.get k=some (.arr sz rows 0 ex))(b:Y.tm t=.ob k sz 0 0 none):Cv U n Y S ⟨bK Y.tm t (.gr k sz 0),Y.df⟩ (S.set k (some (.arr sz (O.h (List.map f) []) 0 false))):=by have:=Cv.amI (U:=U) (n:=n) a b (aF_ _);rw[O.eq,aY_];simpa using this
def arK:=aD func263 call263
def yJ:=[0,12,5,6,4,11,13,1]
def Dp(O:Hd)(x:Tm×Tm):List AV:=[iv x.1.k,iv x.1.i,.v (.string x.1.n),tl O x.1.a,iv x.2.k,iv x.2.i,.v (.string x.2.n),tl O x.2.a]
def wD(O:Hd)(l:List (Tm×Tm)):AV:=aQ O (Dp O) false l
theorem AT(x:Tm×Tm):∀a∈Dp O x,Pure a:=by simp[Dp,cQ,Pure.v,iv]
def oL(l:List (Tm×Tm)):Pure (wD O l):=eW λx _ a b=>AT x a b
theorem Tc(a b:List Tm)(N:a.length<=100000000000)(P:a.length=b.length):ad U 263 [tl O a,tl O b] (wD O (a.zip b)):=by let⟨R,g⟩:=au (a.zip b);rw[<-g];refine st arK yJ (oL _) ?_;refine b9 λq j=>?_;rw[aA]at j;refine H yJ ?_;refine I.op rfl (D.akL rfl rfl X X X X) ?_;refine I.Aj (Cv.amT (O:=O) (Dp O) (t:=9) (k:=0) rfl rfl) ?_;refine H yJ ?_;refine b9 λm n=>?_;rw[aA]at n;refine H yJ ?_;refine cW (τ:=List (Tm×Tm)×Nat) 1 2 [(1,0)] (λp=>[(0,tl O a),(1,tl O b),(5,.gr 1 8 p.2.2),(11,.v (.int .i64 m)),(12,.v (.int .i64 p.1))]) [] (λp=>[(1,.arr 8 (O.h (List.map (Dp O)) p.2.1) 0 false)]) a.length (λk p=>R=p.2.1++(a.drop k).zip (b.drop k)/\p.2.2=p.2.1.length/\p.2.1.length=k) ([],0) ⟨Z,rfl,rfl⟩ ?_;rintro i k⟨S,len⟩d T⟨c,e,o⟩;simp only at d c e o;clear g;refine H yJ ?_;refine bq (λh=>?_) λh=>?_<;>(try simp only[bT]at h);rotate_left;refine H yJ ?_;refine xG yJ ?_;refine fq ?_;rw[aP_ X,dz_,aI_]at c;rw[c];exact aL.grow rfl e;let⟨x,r,s⟩:=aC (l:=a) (k:=k) X;let⟨y,u,v⟩:=aC (l:=b) (k:=k) X;rw[s,v,dc_]at c;let⟨w,z,A,B⟩:=x;let⟨C,E,F,G⟩:=y;refine H yJ ?_;refine I.op rfl (D.ind rfl rfl (cG (l:=a) d r) cH) ?_;refine H yJ ?_;refine I.op rfl (D.ind rfl rfl (cG (l:=b) d u) cH) ?_;refine H yJ ?_;refine I.fT (f:=Dp O) (⟨w,z,A,B⟩,⟨C,E,F,G⟩) rfl rfl rfl e (λ_=>rfl) rfl rfl rfl X λJ K V L=>?_;refine H yJ ?_;refine cN λM W=>?_;refine H yJ ?_;exact cO (M,J,K) [(1,2)] (k+1) ⟨Z,L,Z⟩
def arL:=aD func238 call238
def Td:=[2,0,1,5]
def agC:=aD func321 call321
def yK:=[1,4,5,2,0,8]
def agD:=aD func237 call237
def amU:=[2,0,3]
theorem amV(x:Tm):tc x=(a7 [x]).isEmpty:=by unfold tc varsOf;cases a7 [x] with|nil=>rfl|cons a l=>rw[bV,if_neg aE];rfl
theorem ye(b:Bool):ad U 237 [.v (.bool b)] (iv (qi b)):=by
 cases b
 ·skip;refine st agD amU .v ?_;repeat' first|refine fq ?_
  exact dA rfl
 ·skip;refine st agD amU .v ?_;repeat' first|refine fq ?_
  exact dA rfl
theorem aaP(n:Nat):∀x:Tm,cL x<=n->ad U 321 [tm O x] (.v (.bool (oJ x))):=by induction n with|zero=>intro x h;have:=ff x;omega|succ m d =>
  intro x c;rw[ff]at c;let⟨R,b⟩:=au (oJ x);rw[<-b];let⟨k,i,n,a⟩:=x;rw[oJ]at b;simp only at c;have e:=KR (U:=U) n;let⟨t,o⟩:=au (eZ n);rw[<-o]at e b;clear o;by_cases u:a.length=2;rotate_left
  ·clear d c;have v:R=if k=0\/k=1 then true else false:=Z;clear b;refine st agC yK .v ?_;repeat' first|refine bg yK (pl e) (λ_=>?_) λ_=>?_|refine cg yK (λf=>?_) λf=>?_|refine lg yK λm w=>?_|refine fq ?_
   all_goals first|omega|refine aO ?_;rw[v];simp_all;done
  match a,u with
  |[x,y],_ =>
  simp only[bC]at c;have g:=d x X;have j:=d y X;clear d c;simp only[Pc]at b;let⟨p,r⟩:=au (oJ x);let⟨q,s⟩:=au (oJ y);rw[<-r]at g b;rw[<-s]at j b;clear r s;refine st agC yK .v ?_;repeat' first|refine bg yK (pl e) (λ_=>?_) λ_=>?_|refine og yK (D.ind rfl rfl (cG (l:=[x,y]) (k:=0) rfl rfl) cH) ?_|refine og yK (D.ind rfl rfl (cG (l:=[x,y]) (k:=1) rfl rfl) cH) ?_|refine bg yK (pl g) (λ_=>?_) λ_=>?_|refine bg yK (pl j) (λ_=>?_) λ_=>?_|refine cg yK (λf=>?_) λf=>?_|refine lg yK λm w=>?_|refine fq ?_
  all_goals clear e g j
  all_goals refine aO ?_;rw[b];simp_all;done
def Te(x:Tm):ad U 321 [tm O x] (.v (.bool (oJ x))):=aaP _ x (aj_ _)
theorem KA(x:Tm)(d:BQ x):ad U 238 [tm O x] (.v (.bool (tc x))):=by have j:=KV (U:=U) (O:=O) [x];have e:=UM (U:=U) (O:=O) [x] aE ⟨d.1,trivial⟩;rw[amV];let⟨V,f⟩:=au (a7 [x]);rw[<-f]at e⊢;let⟨R,l⟩:=au V.isEmpty;rw[<-l];clear f d;let⟨k,i,n,a⟩:=x;refine st arL Td .v ?_;refine og Td (D.qu rfl j ⟨cQ _,trivial⟩ ⟨YV (O:=O) ⟨k,i,n,a⟩,trivial⟩) ?_;refine I.range (σ:=Unit) aH V 3 3 [] [(2,.pt 1 1 0 0)] (λ_=>[(1,.arr 1 [[.v (.bool false)]] 0 true),(2,.df)]) (λg _=>g=V) () rfl (λa c=>Z) (λa c=>by cases ae_.1 c;exact .ip λb m=>by cases ae_.1 m;exact cQ _) e rfl rfl rfl (by intro p h;simp only[al_,aB_,or_false]at h;rcases h with rfl;exact .pt aJ) rfl (λx=>⟨rfl,λa c=>by cases ae_.1 c;exact .v⟩) cz ?_ ?_;rintro y g _ o;refine H Td ?_;refine I.wU [(1,.arr 1 [[.v (.bool false)]] 0 true),(2,.df)] [] cz ?_;refine H Td ?_;refine fq ?_;exact aO Z;rintro _ o;refine H Td ?_;refine fq ?_;exact aO Z
theorem adZ(n:Nat):∀x:Tm,cL x<=n->ad U 266 [tm O x] (mR (pD x)):=by induction n with|zero=>intro x h;have:=ff x;omega|succ m z =>
  intro x r;rw[ff]at r;have c:=amO (U:=U) (O:=O) x;have A:=SG (U:=U) (O:=O) x.i;let⟨R,b⟩:=au (pD x);rw[<-b];let⟨k,i,n,a⟩:=x;rw[pD]at b;simp only at r c A;let⟨G,L⟩:=au (iQ i);rw[<-L]at A b;by_cases B:k=2/\a.length=2/\eZ n=true;rotate_left
  ·rw[show(decide (k=2)&&decide (a.length=2)&&eZ n)=false by cases h:decide (k=2)&&decide (a.length=2)&&eZ n with|false=>rfl|true=>rw[aw_,aw_,decide_eq_true_eq,decide_eq_true_eq]at h;exact absurd ⟨h.1.1,h.1.2,h.2⟩ B]at c;have JE:R=if k=1 then(0,17) else if k=0 then if G=true then(i,0) else(0,5) else(0,11):=by rw[b,if_neg B]
   clear z r b B;refine st agp jM (kR _) ?_;repeat' first|refine bg jM (D.qu rfl A ⟨a8 _,trivial⟩ ⟨XN i,trivial⟩) (λd=>?_) λd=>?_|apply bh jM c|refine cg jM (λd=>?_) λd=>?_|refine fq ?_
   all_goals clear A c
   all_goals refine jR ?_;rw[JE];simp_all;done
  obtain⟨rfl,M,C⟩:=B;rw[if_neg X,if_neg X,if_pos ⟨rfl,M,C⟩]at b;match a,M with
  |[x,y],_ =>
  rw[C]at c;simp only[bC]at r;have E:=z x X;have F:=z y X;have o:=λp q=>aiD (U:=U) n p q C;clear z r L C;simp only[ac4]at b;let⟨⟨u,e⟩,N⟩:∃P,P=pD x:=⟨_,rfl⟩;let⟨⟨v,f⟩,S⟩:∃Q,Q=pD y:=⟨_,rfl⟩;rw[<-N]at E b;rw[<-S]at F b;simp only at b;have o:=o u v;let⟨⟨g,h⟩,T⟩:∃V,V=Oh n u v:=⟨_,rfl⟩;rw[<-T]at o b;rw[mR]at E F o;simp only at E F o;clear N S T;refine st agp jM (kR _) ?_;repeat' first|refine og jM (D.bU rfl c (by exact⟨bM ⟨2,i,n,[x,y]⟩,trivial⟩)) ?_|exact dV d|refine cg jM (λd=>?_) λd=>?_
  all_goals first|skip
  refine I.eH (σ:=Int×Int×Int) 2 2 [] (λp=>[(1,.pt 0 4 0 0),(4,.pt 1 2 0 0),(32,.v (.int .i64 p.1))]) [] (λp=>[(0,.arr 4 [jG O ⟨2,i,n,[x,y]⟩] 0 true),(1,.arr 2 [[iv p.2.1,iv p.2.2]] 0 true)]) (λp=>p.1=0\/p.1=1/\p.2.1=u/\e=0\/p.1=2/\p.2.1=u/\p.2.2=v/\e=0/\f=0) (λp=>2-p.1.toNat) (0,0,0) (.inl rfl) rfl cz ?_;rintro⟨j,c0,c1⟩ s;simp only at s;rcases s with s|⟨s,J,W⟩|⟨s,J,fh,W,hf⟩
  ·skip;refine H jM ?_;refine cn (λt=>?_) λt=>?_;rotate_left;omega;refine H jM ?_;refine og jM (D.ind rfl rfl (cG (l:=[x,y]) (k:=0) X rfl) cH) ?_;apply bh jM E;refine cn (λw=>?_) λw=>?_
   ·refine H jM ?_;repeat refine rG jM ?_
    refine fq ?_;refine jR ?_;rw[b];simp_all
   refine H jM ?_;refine og jM (D.Pn (m:=0) rfl rfl X aJ) ?_;refine ag jM λK eu=>?_;refine I.bu (K,u,c1) [] ?_ ?_ cz;exact .inr (.inl ⟨by simp only;omega,rfl,w⟩);simp only;omega
  ·skip;refine H jM ?_;refine cn (λt=>?_) λt=>?_;rotate_left;omega;refine H jM ?_;refine og jM (D.ind rfl rfl (cG (l:=[x,y]) (k:=1) X rfl) cH) ?_;apply bh jM F;refine cn (λw=>?_) λw=>?_
   ·refine H jM ?_;repeat refine rG jM ?_
    refine fq ?_;refine jR ?_;rw[b];simp_all
   refine H jM ?_;refine og jM (D.Pn (m:=1) rfl rfl X aJ) ?_;refine ag jM λK eu=>?_;refine I.bu (K,c0,v) [] ?_ ?_ cz;exact .inr (.inr ⟨by simp only;omega,J,rfl,W,w⟩);simp only;omega
  ·skip;refine H jM ?_;refine cn (λt=>?_) λt=>?_;omega;refine H jM ?_;refine I.gp ?_;subst J fh;refine H jM ?_;repeat' first|refine og jM (D.Pn (m:=0) rfl rfl rfl aJ) ?_|refine og jM (D.Pn (m:=1) rfl rfl rfl aJ) ?_|apply bh jM o|refine fq ?_
   all_goals refine jR ?_;rw[b];simp_all
def VS(x:Tm):ad U 266 [tm O x] (mR (pD x)):=adZ _ x (aj_ _)
def arM:=aD func259 call259
def AU:=[8,0,4,1,7,9,5,3,17]
def awh:=aD func36 call36
def JF:=[13,7,6,0,1,2,3,12,14,11,5,4,9]
def awi:=aD func78 call78
def g78:=[2,0,1]
def arN:=aD func145 call145
def ad0:=[5,2,0,1]
def Nj(O:Hd)(k:Int)(ids:List Int)(e:List Bd):List AV:=[iv k,aQ O aH false ids,a_ O e]
def L0(O:Hd)(k:Int)(ids:List Int)(e:List Bd):AV:=.agg (Nj O k ids e)
theorem HH(k:Int)(ids:List Int)(e:List Bd):∀a∈Nj O k ids e,Pure a:=by simp[Nj,a8,bH,Pure.v,iv]
def xe(k:Int)(ids:List Int)(e:List Bd):Pure (L0 O k ids e):=.agg (HH k ids e)
theorem amW(l:List Fi)(f:Fi)(u:l.length<=1099511627776)(a:∀x∈l,x.ids.length<=1099511627776)(j:f.ids.length<=1099511627776):ad U 259 [mX O l,fi O f] (.v (.bool (Es l f))):=by
 have n:∀x∈l,ad U 124 [fi O x,fi O f] (iv (po x f)):=λx h=>Y8 x f (a x h) j;let⟨R,e⟩:=au (Es l f);rw[<-e];unfold Es at e;let⟨d,fi⟩:=f;clear a j;refine st arM AU .v ?_;refine lg AU λm v=>?_;refine bL 1 1 [] (λi=>[(0,mX O l),(3,.pt 0 2 0 0),(7,.v (.int .i64 m)),(8,.v (.int .i64 i))]) [] (λ_=>[(0,.arr 2 [I9 O ⟨d,fi⟩] 0 true)]) l.length (λk=>R=(l.drop k).any λx=>po x ⟨d,fi⟩==0) Z λi k q w b=>?_;clear e;refine H AU ?_;by_cases r:k<l.length
 ·let⟨x,a,s⟩:=aC r;rw[s,bH_]at b;have o:=n x (aZ a);let⟨c,p⟩:=au (po x ⟨d,fi⟩);rw[<-p]at o b;let⟨y,t⟩:=au ((l.drop (k+1)).any λx=>po x ⟨d,fi⟩==0);rw[<-t]at b;let⟨z,A⟩:=x;clear n p;repeat' first|refine og AU (D.bw q a) ?_|refine ig AU (pl o) λ_ _=>?_|refine cg AU (λg=>?_) λg=>?_|refine ag AU λ_ _=>?_|refine xG AU ?_|refine rG AU ?_|refine fq ?_
  all_goals first|refine aO ?_;rw[b];simp_all;done|exact cw _ [] (k+1) Z
 ·skip;repeat' first|refine cg AU (λg=>?_) λg=>?_|refine xG AU ?_|refine fq ?_
  all_goals first|omega|rw[b,ar_ X];exact aO rfl
theorem XQ(ids:List Int)(d i x:Int)(k:Nat)(a:i=k)(b:ids[k]?=some x):ad U 145 [iv i,iv d,.ip [aQ O aH false ids]] (.v (.bool (x==d))):=by
 refine st arN ad0 .v ?_;repeat' first|refine og ad0 (D.bw a b) ?_|refine cg ad0 (λc=>?_) λc=>?_|refine fq ?_
 all_goals refine aO ?_;simp_all
theorem aaQ(ids:List Int):ad U 78 [aQ O aH false ids] (.fn (.func 145) [] [.ip [aQ O aH false ids]]):=by
 refine st awi g78 (.fn (λa c=>Z) λa c=>by cases ae_.1 c;exact .ip λb e=>by grind[a8]) ?_;repeat' first|refine fq ?_
 refine aL.fns ?_ ?_;exact trivial;exact⟨aL.box (cs:=[aQ O aH false ids]) (cs':=[aQ O aH false ids]) rfl ⟨.refl _,trivial⟩,trivial⟩
theorem aiF(r:Rl)(s:dp)(k:Int)(ids:List Int)(e:List Bd)(g:Fs r)(t:0<=s.fresh)(u:s.fresh<=1099511627776)(C:e.length<=1099511627776):ad U 36 [rl O r,yT O s,L0 O k ids e] (dI O (r.body.map (gL e s.fresh))):=by have a:=g.ba;have h:=g.bn;let⟨B,i⟩:=au (r.body.map (gL e s.fresh));rw[<-i];clear g;let⟨rn,V,W,rg,c,rv⟩:=r;let⟨E,F,G,J,K,L,d,j⟩:=s;simp only at a h t u i;have dy:=HH (O:=O) k ids e;refine st awh JF (a6 _) ?_;refine lg JF λm hm=>?_;refine cW (τ:=List Gl×Nat) 3 4 [] (λp=>[(4,.pt 1 8 0 0),(5,.pt 2 3 0 0),(7,.gr 3 3 p.2.2),(11,dI O c),(12,.v (.int .i64 m)),(13,.v (.int .i64 p.1))]) [] (λp=>[(1,.arr 8 [CN O ⟨E,F,G,J,K,L,d,j⟩] 0 true),(2,.arr 3 [Nj O k ids e] 0 true),(3,.arr 3 (O.h (List.map (sQ O)) p.2.1) 0 false)]) c.length (λz p=>B=p.2.1++(c.drop z).map (gL e d)/\p.2.2=p.2.1.length/\p.2.1.length=z) ([],0) ⟨Z,rfl,rfl⟩ ?_;rintro zi z⟨MP,len⟩v Fv⟨b,l,n⟩;simp only at v b l n;clear i;refine H JF ?_;by_cases M:z<c.length;rotate_left;refine cn (λo=>?_) λo=>?_;grind;refine H JF ?_;refine xG JF ?_;refine fq ?_;rw[aP_ X,aY_,aI_]at b;rw[b];exact aL.grow rfl l;refine cn (λo=>?_) λo=>?_;rotate_left;grind;let⟨x,w,N⟩:=aC M;have y:=a x (aZ w);have A:=S7 (U:=U) (O:=O) (env:=e) (fr:=d) C t u x (aD_ y.1.2.1 aJ) y.2;rw[N,aK_]at b;let⟨q,P⟩:=au (gL e d x);rw[<-P]at A b;let⟨xo,xn,xa⟩:=x;refine H JF ?_;refine og JF (D.bw v w) ?_;apply bh JF A;refine I.app (x:=q) (f:=sQ O) rfl rfl rfl l (λ_=>rfl) rfl rfl rfl rfl X λQ R h1 S=>?_;refine H JF ?_;refine ag JF λT eu=>?_;exact cO (T,Q,R) [(3,5)] (z+1) ⟨Z,S,Z⟩
def awj:=aD func21 call21
def awk:=aD func19 call19
def wE:=[4,1,3,2,0,14,19,58,80]
def BY(x:At):Bool:=zl x.a
def xz(x:Gl):Bool:=zl x.a
def XT(x:Im):Bool:=zl x.a
theorem VT(l:List At)(q:l.length<=1099511627776)(g:∀x∈l,pM x.a):ad U 40 [dW O l] (.v (.bool (l.all BY))):=by
 let⟨R,c⟩:=au (l.all BY);rw[<-c];refine st awa Fx .v ?_;refine bL 0 0 [] (λi=>[(0,dW O l),(3,.v (.int .i64 i))]) [] (λ_=>[]) l.length (λk=>R=(l.drop k).all BY) Z λi k h r a=>?_;clear c;refine H Fx ?_;by_cases j:k<l.length
 ·let⟨x,d,n⟩:=aC j;have e:=g x (aZ d);have f:=S9 (U:=U) (O:=O) x.a e.len e.2;rw[n,aL_,BY]at a;let⟨B,o⟩:=au (zl x.a);rw[<-o]at a f;let⟨s,t⟩:=x;repeat' first|refine og Fx (D.bw h d) ?_|refine bg Fx (pl f) (λ_=>?_) λ_=>?_|refine cg Fx (λb=>?_) λb=>?_|refine lg Fx λm p=>?_|refine ag Fx λ_ _=>?_|refine xG Fx ?_|refine rG Fx ?_|refine fq ?_
  all_goals first|omega|rw[a,show B=false by grind];exact aO rfl|rw[show B=true by grind,az_]at a;exact cw _ [] (k+1) a
 ·skip;repeat' first|refine cg Fx (λb=>?_) λb=>?_|refine lg Fx λm p=>?_|refine xG Fx ?_|refine fq ?_
  all_goals first|omega|rw[a,ar_ X];exact aO rfl
theorem EF(l:List Gl)(n:Int)(r:l.length<=1099511627776)(h:∀x∈l,pM x.a):ad U 20 [dI O l,iv n] (.v (.bool (decide ((l.length:Int)<=n)&&l.all xz))):=by
 let⟨R,c⟩:=au (decide ((l.length:Int)<=n)&&l.all xz);rw[<-c];refine st awb BX .v ?_;repeat' first|refine cg BX (λb=>?_) λb=>?_|refine lg BX λm d=>?_|refine fq ?_
 grind[aO];rw[decide_eq_true X,az_]at c;refine bL 0 0 [] (λi=>[(0,dI O l),(5,.v (.int .i64 i))]) [] (λ_=>[]) l.length (λk=>R=(l.drop k).all xz) Z λi k j s a=>?_;clear c;refine H BX ?_;by_cases o:k<l.length
 ·let⟨x,e,p⟩:=aC o;have f:=h x (aZ e);have g:=S9 (U:=U) (O:=O) x.a f.len f.2;rw[p,aL_,xz]at a;let⟨B,q⟩:=au (zl x.a);rw[<-q]at a g;let⟨t,u,v⟩:=x;repeat' first|refine og BX (D.bw j e) ?_|refine bg BX (pl g) (λ_=>?_) λ_=>?_|refine cg BX (λb=>?_) λb=>?_|refine lg BX λm d=>?_|refine ag BX λ_ _=>?_|refine xG BX ?_|refine rG BX ?_|refine fq ?_
  all_goals first|omega|rw[a,show B=false by grind];exact aO rfl|rw[show B=true by grind,az_]at a;exact cw _ [] (k+1) a
 ·skip;repeat' first|refine cg BX (λb=>?_) λb=>?_|refine lg BX λm d=>?_|refine xG BX ?_|refine fq ?_
  all_goals first|omega|rw[a,ar_ X];exact aO rfl
def ad1:=aD func95 call95
def OH:=[0,2,4]
def ad2:=aD func74 call74
def OI:=[0,2,4]
def amX:=aD func94 call94
def oS:=[4,10,5,3,0,9,11,1]
def amY:=aD func97 call97
def oT:=[4,10,5,3,0,9,11,1]
def awl:=aD func44 call44
def Tg:=[2,4,5,6,7,0,1]
def HI(k:Int)(x:At):At:=⟨x.n,x.a.map (Dm k)⟩
def HJ(k:Int)(x:Gl):Gl:=⟨x.op,x.n,x.a.map (Dm k)⟩
def ad3(k:Int)(r:Rl):Rl:=⟨r.n,r.aP.map (HI k),r.rem.map (HI k),r.guard.map (HJ k),r.body.map (HJ k),r.vars⟩
section
variable{rd:Bool}
theorem I.amZ{c:Option Nat}{d:Option (Nat×Bool)}{m:Nat}{x b:QO}{k i j:Nat}{a:List T}{x0 y:T}(o:bJ Y.tm d=some true)(p:x.ev Y.tm=.pt k sz i j)(q:S.get k=some (.arr sz (O.h (List.map f) a) 0 ex))(h0:a[i]?=some x0)(r:sU (f x0) j (bB (b.ev Y.tm))=f y)(s:(bB (b.ev Y.tm)).all dv=true)(t:m=(bB (b.ev Y.tm)).length)(u:j+(bB (b.ev Y.tm)).length<=(f x0).length)(kk:∀g,g=a.set i y->I P U rd n Q (.bp dr l K) (bX c Y (.v undef)) (S.set k (some (.arr sz (O.h (List.map f) g) 0 ex)))):I P U rd n Q (.bp dr (⟨c,d,.store m x b⟩::l) K) Y S:=by
 have h:=kk _ rfl;have v:(O.h (List.map f) a)[i]?=some (f x0):=c_ h0;have e:(O.h (List.map f) a).set i (sU (f x0) j (bB (b.ev Y.tm)))=O.h (List.map f) (a.set i y):=by rw[r,O.eq,O.eq,List.map_set]
 rw[<-e]at h;exact I.op (i:=⟨c,d,.store m x b⟩) o (D.akc p q s t v u) h
theorem Cv.awm{t k fz:Nat}{row:List AV}(f:S.get k=some (.arr sz [row] fz ex))(c:Y.tm t=.pt k sz 0 0):Cv U n Y S ⟨bK Y.tm t (.ip row),Y.df⟩ (S.set k none):=by
 have g:∀j o,(ao.none_.set k (some (.arr sz [row] fz ex))).get j=some o->j=k/\o=.arr sz [row] fz ex:=λj o b=>by have b:bK (λ_=>none) k (some (Ob.arr sz [row] fz ex)) j=some o:=b;by_cases e:j=k;subst e;rw[aK]at b;exact⟨rfl,(oJ_ b).symm⟩;rw[aR _ _ e]at b;cases b
 refine Cv.ac0 (N:=ao.none_.set k (some (.arr sz [row] fz ex))) (S':=S.set k none) (λj o b=>?_) (aj_ _) (λj o b=>?_) (by rw[c];intro h;cases h) ?_;obtain⟨rfl,rfl⟩:=g j o b;exact f;have b:bK S.get k none j=some o:=b;by_cases e:j=k;subst e;rw[aK]at b;cases b;rw[aR _ _ e]at b;refine⟨b,?_⟩;show bK (λ_=>none) k _ j=none;rw[aR _ _ e];rw[c];refine aL.pt (row:=row) (aK _ _ _) rfl (by omega) λq a m d i=>?_;rw[aJ_,i]at d;obtain rfl:=oJ_ d;exact .refl _
end
def XU(l:List At):jm B (.arr sz (O.h (List.map (atR O)) l) 0 ex):=jP λx _ a b=>EG x a b
theorem arO(l:List At):∀row∈O.h (List.map (atR O)) l,∀a∈row,Pure a:=by rw[O.eq];intro row b a c;obtain⟨x,_,rfl⟩:=aE_.1 b;exact EG x a c
theorem XV(A:Option Addr)(c:Nat):ad U 95 [.v (.slice A 0 c)] (.sl true []):=by cases A with|none =>refine st ad1 OH (.sl λr h=>by cases h) ?_;refine I.op rfl (D.nil (b:=true) rfl rfl) ?_;refine H OH ?_;refine fq ?_;exact .refl _|some A =>refine st ad1 OH (.sl λr h=>by cases h) ?_;refine I.op rfl (D.nil (b:=false) rfl rfl) ?_;refine H OH ?_;refine I.op rfl (D.D5 rfl rfl) ?_;refine H OH ?_;refine fq ?_;exact .refl _
theorem ad4:ad U 95 [dW O []] (dW O []):=by
 have h:ad U 95 [dW O []] (.sl true []):=by rw[dW,bN];exact aq.emp XV
 exact aq.fz h (λS=>by rw[dW,bN];exact aL.wk) (bP _)
theorem ad5(x:At)(l:List At)(d:(x::l).length<=100000000000):aG prog U 95 [dW O (x::l)] (aw [] 0) (.gr 0 2 (x::l).length) (aw [(0,.arr 2 (O.h (List.map (atR O)) (x::l)) 0 false)] 1):=by
 obtain⟨R,b⟩:∃R,R=x::l:=⟨_,rfl⟩;have e:Am (aQ O (atR O) false R)=some false:=by rw[b,bN];rfl
 rw[<-b]at d⊢;unfold dW;refine sc 0 1 ad1 ?_;refine H OH ?_;refine I.op rfl (D.nil e rfl) ?_;refine H OH ?_;refine I.pZ (f:=atR O) (ys:=R) rfl rfl rfl (λ_=>rfl) (by omega) λh len c a=>?_;have a:len=R.length:=by rw[a,c]
 subst c;rw[<-a];refine H OH ?_;refine fq ?_;exact⟨[(0,0)],.jz rfl rfl,⟨.inl ⟨_,rfl,.same (XU _)⟩,trivial⟩,rfl⟩
theorem aaR(k:Int)(a:List At)(e:a.length<=100000000000)(hs:∀x∈a,bC x.a<=100000000000):ad U 94 [dW O a,.ip [.fn (.func 163) [] [.ip [iv k]]]] (dW O (a.map (HI k))):=by
 have P:=xd k;have Rz:Pure (.ip [.fn (.func 163) [] [.ip [iv k]]]):=.ip λb c=>by obtain rfl:=ae_.1 c;exact P
 cases a with
 |nil =>
  have g:=ad4 (U:=U) (O:=O);refine st amX oS (bP _) ?_;repeat' first|refine I.op rfl (pl g) ?_;refine H oS ?_|refine bq (λc=>?_) λc=>?_<;>(try simp only[bT]at c)<;>(first|exact absurd c (by decide)|refine H oS ?_)|refine b9 λm o=>?_;(try rw[aA]at o);refine H oS ?_|refine cN λ_ _=>?_;refine H oS ?_|refine iJ λ_ _=>?_;refine H oS ?_|refine I.str rfl (D.cat rfl rfl (by assumption)) λ_ _=>?_;refine H oS ?_|refine I.gp ?_;refine H oS ?_|refine I.HK ?_;refine H oS ?_|refine fq ?_
  refine I.eH (σ:=Int) 0 0 [] (λp=>[(4,dW O []),(9,.v (.int .i64 m)),(10,.v (.int .i64 p))]) [] (λ_=>[]) (λp=>p=0) (λp=>0) 0 rfl rfl cq ?_;rintro i rfl;refine H oS ?_;repeat' first|refine bq (λc=>?_) λc=>?_<;>(try simp only[bT]at c)<;>(first|exact absurd c (by decide)|refine H oS ?_)|refine b9 λm o=>?_;(try rw[aA]at o);refine H oS ?_|refine cN λ_ _=>?_;refine H oS ?_|refine iJ λ_ _=>?_;refine H oS ?_|refine I.str rfl (D.cat rfl rfl (by assumption)) λ_ _=>?_;refine H oS ?_|refine I.gp ?_;refine H oS ?_|refine I.HK ?_;refine H oS ?_|refine fq ?_
  all_goals first|exfalso;simp only[bd_]at o;omega|exact .refl _
 |cons x0 z =>
 have g:=ad5 (U:=U) (O:=O) x0 z e;obtain⟨a,A⟩:∃a,a=x0::z:=⟨_,rfl⟩;rw[<-A]at g e hs⊢;clear A;obtain⟨R,B⟩:∃R,R=a.map (HI k):=⟨_,rfl⟩;rw[<-B];obtain⟨Q,S⟩:∃n,n=a.length:=⟨_,rfl⟩;rw[<-S]at g;refine st amX oS (bP _) ?_;refine I.op rfl (D.ja [] [(0,some (.arr 2 (O.h (List.map (atR O)) a) 0 false))] g rfl ⟨.pure (bP _),trivial⟩ (.gr rfl) trivial ⟨⟨0,_,rfl,rfl,.pure (arO _)⟩,trivial⟩) ?_;refine H oS ?_;refine I.int rfl (D.kS rfl) λm o=>?_;refine H oS ?_;refine I.eH (σ:=Int×List At) 1 1 [] (λp=>[(1,.ip [.fn (.func 163) [] [.ip [iv k]]]),(4,.gr 0 2 Q),(9,.v (.int .i64 m)),(10,.v (.int .i64 p.1))]) [] (λp=>[(0,.arr 2 (O.h (List.map (atR O)) p.2) 0 false)]) (λp=>∃j:Nat,p.1=j/\j<=a.length/\p.2.length=a.length/\p.2=(a.take j).map (HI k)++a.drop j) (λp=>a.length-p.1.toNat) (0,a) ⟨0,rfl,by simp,rfl,by simp⟩ rfl (by exact⟨sq,rfl,⟨.inl ⟨_,rfl,.same (XU _)⟩,trivial⟩,rfl,rfl,rfl⟩) ?_;rintro⟨i,q⟩ ⟨j,s,hk,C,r⟩;simp only at s C r;refine H oS ?_;refine bq (λE=>?_) λE=>?_<;>(try simp only[bT]at E);rotate_left;refine H oS ?_;refine I.gp ?_;refine H oS ?_;refine I.fin (by conv=>lhs;cbv) ?_;have h:R=q:=by rw[B,r,aP_ (by omega),aW_ (by omega),aI_]
 rw[h];exact aL.grow rfl (by omega);obtain⟨x,F,G⟩:=aC (l:=a) (k:=j) (by omega);have J:q[j]?=some x:=by
  have e:((a.take j).map (HI k)).length=j:=by rw[bk_,aV_];omega
  rw[r,br_ (by omega),e,bL_,G];rfl
 have gU:j<a.length:=by omega
 have t:=OG (U:=U) (O:=O) k x.a (hs x (aZ F));obtain⟨y,K⟩:∃y,y=HI k x:=⟨_,rfl⟩;obtain⟨L,T⟩:=x;simp only at t;obtain⟨d,M⟩:∃d,d=T.map (Dm k):=⟨_,rfl⟩;rw[<-M]at t;have u:y=⟨L,d⟩:=by rw[K,HI,M]
 have v:=c_ (O:=O) (f:=atR O) J;rw[atR]at v;simp only at v;refine H oS ?_;refine I.op rfl (D.ew rfl rfl s (by omega)) ?_;refine I.op rfl (D.quiet rfl) ?_;refine I.op rfl (D.iE rfl rfl v rfl) ?_;refine H oS ?_;refine I.op rfl (pl t) ?_;refine H oS ?_;refine I.op rfl (D.ew rfl rfl s (by omega)) ?_;refine I.op rfl (D.quiet rfl) ?_;refine I.amZ (f:=atR O) (y:=⟨L,d⟩) rfl rfl rfl J rfl rfl rfl (by exact aj_ _) λV N=>?_;refine H oS ?_;refine cN λW eu=>?_;refine H oS ?_;refine I.bu (σ:=Int×List At) (W,V) [] ⟨j+1,by simp only;omega,by omega,by simp only;rw[N,bl_];exact C,?_⟩ ?_ (by exact⟨sq,rfl,⟨.inl ⟨_,rfl,.same (XU _)⟩,trivial⟩,rfl,rfl,rfl⟩);simp only;have e:((a.take j).map (HI k)).length=j:=by rw[bk_,aV_];omega
 rw[N,<-u,r,ce_ _ _ (by omega),e,bL_,G,cM_,bP_,F,ba_,K];simp;simp only;omega
def arP(l:List Gl):jm B (.arr sz (O.h (List.map (sQ O)) l) 0 ex):=jP λx _ a b=>AW x a b
theorem arQ(l:List Gl):∀row∈O.h (List.map (sQ O)) l,∀a∈row,Pure a:=by rw[O.eq];intro row b a c;obtain⟨x,_,rfl⟩:=aE_.1 b;exact AW x a c
theorem XW(A:Option Addr)(c:Nat):ad U 74 [.v (.slice A 0 c)] (.sl true []):=by cases A with|none =>refine st ad2 OI (.sl λr h=>by cases h) ?_;refine I.op rfl (D.nil (b:=true) rfl rfl) ?_;refine H OI ?_;refine fq ?_;exact .refl _|some A =>refine st ad2 OI (.sl λr h=>by cases h) ?_;refine I.op rfl (D.nil (b:=false) rfl rfl) ?_;refine H OI ?_;refine I.op rfl (D.D5 rfl rfl) ?_;refine H OI ?_;refine fq ?_;exact .refl _
theorem ad6:ad U 74 [dI O []] (dI O []):=by
 have h:ad U 74 [dI O []] (.sl true []):=by rw[dI,bN];exact aq.emp XW
 exact aq.fz h (λS=>by rw[dI,bN];exact aL.wk) (a6 _)
theorem ad7(x:Gl)(l:List Gl)(d:(x::l).length<=100000000000):aG prog U 74 [dI O (x::l)] (aw [] 0) (.gr 0 3 (x::l).length) (aw [(0,.arr 3 (O.h (List.map (sQ O)) (x::l)) 0 false)] 1):=by
 obtain⟨R,b⟩:∃R,R=x::l:=⟨_,rfl⟩;have e:Am (aQ O (sQ O) false R)=some false:=by rw[b,bN];rfl
 rw[<-b]at d⊢;unfold dI;refine sc 0 1 ad2 ?_;refine H OI ?_;refine I.op rfl (D.nil e rfl) ?_;refine H OI ?_;refine I.pZ (f:=sQ O) (ys:=R) rfl rfl rfl (λ_=>rfl) (by omega) λh len c a=>?_;have a:len=R.length:=by rw[a,c]
 subst c;rw[<-a];refine H OI ?_;refine fq ?_;exact⟨[(0,0)],.jz rfl rfl,⟨.inl ⟨_,rfl,.same (arP _)⟩,trivial⟩,rfl⟩
theorem aaS(k:Int)(a:List Gl)(e:a.length<=100000000000)(hs:∀x∈a,bC x.a<=100000000000):ad U 97 [dI O a,.ip [.fn (.func 163) [] [.ip [iv k]]]] (dI O (a.map (HJ k))):=by
 have Q:=xd k;have Rz:Pure (.ip [.fn (.func 163) [] [.ip [iv k]]]):=.ip λb c=>by obtain rfl:=ae_.1 c;exact Q
 cases a with
 |nil =>
  have g:=ad6 (U:=U) (O:=O);refine st amY oT (a6 _) ?_;repeat' first|refine I.op rfl (pl g) ?_;refine H oT ?_|refine bq (λc=>?_) λc=>?_<;>(try simp only[bT]at c)<;>(first|exact absurd c (by decide)|refine H oT ?_)|refine b9 λm o=>?_;(try rw[aA]at o);refine H oT ?_|refine cN λ_ _=>?_;refine H oT ?_|refine iJ λ_ _=>?_;refine H oT ?_|refine I.str rfl (D.cat rfl rfl (by assumption)) λ_ _=>?_;refine H oT ?_|refine I.gp ?_;refine H oT ?_|refine I.HK ?_;refine H oT ?_|refine fq ?_
  refine I.eH (σ:=Int) 0 0 [] (λp=>[(4,dI O []),(9,.v (.int .i64 m)),(10,.v (.int .i64 p))]) [] (λ_=>[]) (λp=>p=0) (λp=>0) 0 rfl rfl cq ?_;rintro i rfl;refine H oT ?_;repeat' first|refine bq (λc=>?_) λc=>?_<;>(try simp only[bT]at c)<;>(first|exact absurd c (by decide)|refine H oT ?_)|refine b9 λm o=>?_;(try rw[aA]at o);refine H oT ?_|refine cN λ_ _=>?_;refine H oT ?_|refine iJ λ_ _=>?_;refine H oT ?_|refine I.str rfl (D.cat rfl rfl (by assumption)) λ_ _=>?_;refine H oT ?_|refine I.gp ?_;refine H oT ?_|refine I.HK ?_;refine H oT ?_|refine fq ?_
  all_goals first|exfalso;simp only[bd_]at o;omega|exact .refl _
 |cons x0 z =>
 have g:=ad7 (U:=U) (O:=O) x0 z e;obtain⟨a,A⟩:∃a,a=x0::z:=⟨_,rfl⟩;rw[<-A]at g e hs⊢;clear A;obtain⟨R,B⟩:∃R,R=a.map (HJ k):=⟨_,rfl⟩;rw[<-B];obtain⟨S,T⟩:∃n,n=a.length:=⟨_,rfl⟩;rw[<-T]at g;refine st amY oT (a6 _) ?_;refine I.op rfl (D.ja [] [(0,some (.arr 3 (O.h (List.map (sQ O)) a) 0 false))] g rfl ⟨.pure (a6 _),trivial⟩ (.gr rfl) trivial ⟨⟨0,_,rfl,rfl,.pure (arQ _)⟩,trivial⟩) ?_;refine H oT ?_;refine I.int rfl (D.kS rfl) λm o=>?_;refine H oT ?_;refine I.eH (σ:=Int×List Gl) 1 1 [] (λp=>[(1,.ip [.fn (.func 163) [] [.ip [iv k]]]),(4,.gr 0 3 S),(9,.v (.int .i64 m)),(10,.v (.int .i64 p.1))]) [] (λp=>[(0,.arr 3 (O.h (List.map (sQ O)) p.2) 0 false)]) (λp=>∃j:Nat,p.1=j/\j<=a.length/\p.2.length=a.length/\p.2=(a.take j).map (HJ k)++a.drop j) (λp=>a.length-p.1.toNat) (0,a) ⟨0,rfl,by simp,rfl,by simp⟩ rfl cz ?_;rintro⟨i,q⟩ ⟨j,s,hk,C,r⟩;simp only at s C r;refine H oT ?_;refine bq (λE=>?_) λE=>?_<;>(try simp only[bT]at E);rotate_left;refine H oT ?_;refine I.gp ?_;refine H oT ?_;refine I.fin (by conv=>lhs;cbv) ?_;have h:R=q:=by rw[B,r,aP_ (by omega),aW_ (by omega),aI_]
 rw[h];exact aL.grow rfl (by omega);obtain⟨x,F,G⟩:=aC (l:=a) (k:=j) (by omega);have J:q[j]?=some x:=by
  have e:((a.take j).map (HJ k)).length=j:=by rw[bk_,aV_];omega
  rw[r,br_ (by omega),e,bL_,G];rfl
 have gU:j<a.length:=by omega
 have t:=OG (U:=U) (O:=O) k x.a (hs x (aZ F));obtain⟨y,K⟩:∃y,y=HJ k x:=⟨_,rfl⟩;obtain⟨L,M,V⟩:=x;simp only at t;obtain⟨d,N⟩:∃d,d=V.map (Dm k):=⟨_,rfl⟩;rw[<-N]at t;have u:y=⟨L,M,d⟩:=by rw[K,HJ,N]
 have v:=c_ (O:=O) (f:=sQ O) J;rw[sQ]at v;simp only at v;refine H oT ?_;refine I.op rfl (D.ew rfl rfl s (by omega)) ?_;refine I.op rfl (D.quiet rfl) ?_;refine I.op rfl (D.iE rfl rfl v rfl) ?_;refine H oT ?_;refine I.op rfl (pl t) ?_;refine H oT ?_;refine I.op rfl (D.ew rfl rfl s (by omega)) ?_;refine I.op rfl (D.quiet rfl) ?_;refine I.amZ (f:=sQ O) (y:=⟨L,M,d⟩) rfl rfl rfl J rfl rfl rfl (by exact aj_ _) λW P=>?_;refine H oT ?_;refine cN λi3 eu=>?_;refine H oT ?_;refine I.bu (σ:=Int×List Gl) (i3,W) [] ⟨j+1,by simp only;omega,by omega,by simp only;rw[P,bl_];exact C,?_⟩ ?_ cz;simp only;have e:((a.take j).map (HJ k)).length=j:=by rw[bk_,aV_];omega
 rw[P,<-u,r,ce_ _ _ (by omega),e,bL_,G,cM_,bP_,F,ba_,K];simp;simp only;omega
theorem Uo(k:Int)(r:Rl)(h1:r.aP.length<=100000000000)(h2:r.rem.length<=100000000000)(h3:r.guard.length<=100000000000)(h4:r.body.length<=100000000000)(h:∀x∈r.aP,bC x.a<=100000000000)(i:∀x∈r.rem,bC x.a<=100000000000)(j:∀x∈r.guard,bC x.a<=100000000000)(l:∀x∈r.body,bC x.a<=100000000000):ad U 44 [rl O r,iv k] (rl O (ad3 k r)):=by
 have c:=aaR (U:=U) (O:=O) k r.aP h1 h;have d:=aaR (U:=U) (O:=O) k r.rem h2 i;have e:=aaS (U:=U) (O:=O) k r.guard h3 j;have f:=aaS (U:=U) (O:=O) k r.body h4 l;have g:=awd (U:=U) k;have s:=xd k;have z:Pure (.ip [.fn (.func 163) [] [.ip [iv k]]]):=.ip λb g=>by obtain rfl:=ae_.1 g;exact s
 obtain⟨R,a⟩:∃R,R=ad3 k r:=⟨_,rfl⟩;rw[<-a];unfold ad3 at a;obtain⟨n,u,v,w,y,A⟩:=r;simp only at c d e f a;obtain⟨B,m⟩:∃x,x=u.map (HI k):=⟨_,rfl⟩;obtain⟨C,o⟩:∃x,x=v.map (HI k):=⟨_,rfl⟩;obtain⟨E,p⟩:∃x,x=w.map (HJ k):=⟨_,rfl⟩;obtain⟨F,q⟩:∃x,x=y.map (HJ k):=⟨_,rfl⟩;rw[<-m]at c a;rw[<-o]at d a;rw[<-p]at e a;rw[<-q]at f a;clear m o p q h1 h2 h3 h4 h i j l;subst a;refine st awl Tg (fQ _) ?_;refine I.op rfl (pl g) ?_;refine I.wi Tg 2 (by conv=>lhs;cbv) ?_;refine I.Aj (Cv.awm (t:=5) rfl rfl) ?_;refine H Tg ?_;refine I.dF rfl (λT=>pl c) ?_;refine H Tg ?_;refine I.dF rfl (λT=>pl d) ?_;refine H Tg ?_;refine I.dF rfl (λT=>pl e) ?_;refine H Tg ?_;refine I.dF rfl (λT=>pl f) ?_;refine H Tg ?_;refine I.fin (by conv=>lhs;cbv) ?_;exact .refl _
end
def Th(a b:At):Bool:=decide (a.n.toList=b.n.toList)&&decide (a.a.length=b.a.length)
def JG(f:At)(G:List Int->List (List Int))(l:List Int):List At->Nat->List (List Int)|[],_=>[]|h::t,k=>(if Th f h &&!l.contains (k:Int) then G (l++[(k:Int)]) else[])++JG f G l t (k+1)
def EH(T:List At):List At->List Int->List (List Int)|[],l=>[l]|f::a,l=>EH T a (l++[-1])++JG f (EH T a) l T 0
def okL(T:List At)(l:List Int):Prop:=(∀m∈l,m=-1\/∃q:Nat,m=q/\q<T.length)/\(l.filter λm=>m !=-1).Nodup
def VU(a kb:Nat):List Int->Nat->Bool|[],_=>false|m::l,k=>decide (m≠-1)&&(decide (a<=k)||decide ((kb:Int)<=m))||VU a kb l (k+1)
def smL:List Int->Nat->Bool|[],_=>true|m::l,k=>decide ((k:Int)=m)&&smL l (k+1)
def Fy(i j:Int)(a kb:Nat)(l:List Int):Bool:=VU a kb l 0 &&!(decide (i=j)&&smL l 0)
def BZ:List At->List Int->List Tm|f::F,m::l=>(if m=-1 then[] else f.a)++BZ F l|_,_=>[]
def Dq(T:List At):List Int->List Tm|[]=>[]|m::l=>(if m=-1 then[] else match T[m.toNat]? with|some h=>h.a|none=>[])++Dq T l
def EI(u:List Bd)(a:At):At:=⟨a.n,a.a.map (fT u)⟩
def HL(u:List Bd)(s:List Im×Bool)(a:At):List Im×Bool:=(s.1++[⟨((s.1.length:Nat):Int)+1,a.n,a.a.map (fT u)⟩],s.2&&fw (EI u a))
def HM(u:List Bd):List At->List Im×Bool->List Im×Bool|[],s=>s|f::F,s=>HM u F (HL u s f)
def EJ(u:List Bd)(l:List Int):List At->Nat->List Im×Bool->List Int->(List Im×Bool)×List Int|[],_,s,a=>(s,a)|b::T,m,s,a=>if 0<=de (λx=>(m:Int)==x) l 0 then EJ u l T (m+1) s (a++[de (λx=>(m:Int)==x) l 0]) else EJ u l T (m+1) (HL u s b) (a++[(s.1.length:Int)])
def upto:Nat->List Int|0=>[]|n+1=>upto n++[(n:Int)]
structure Pr where
 i:Int
 j:Int
 st:dp
 h0:List Int
 h1:List Int
theorem EK:∀n,(upto n).length=n|0=>rfl|n+1=>by rw[upto,ay_,EK n];rfl
end Go.Proofs.YtbdcmpknicjopaaGreat
