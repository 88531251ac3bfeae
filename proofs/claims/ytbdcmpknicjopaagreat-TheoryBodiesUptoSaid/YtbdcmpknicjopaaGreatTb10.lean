import Derived.Test.YtbdcmpknicjopaaGreatTb9
namespace Go.Proofs.YtbdcmpknicjopaaGreat
set_option linter.all false
set_option maxRecDepth 100000
open Go.RowKit Proofs.Tryz
variable{O:Hd}{Y:World}
section
attribute [local irreducible] ao aF D H
def atA:=aD func87 call87
def g87:List Nat:=[1,2,0,5]
def anW:=aD func298 call298
def aiS:List Nat:=[1,2,0,5]
def atB:=aD func42 call42
def EY:List Nat:=[5,4,3,2,0,1,11]
def anX:=aD func250 call250
def uZ:List Nat:=[5,4,3,2,0,1,11]
def anY:=aD func252 call252
def zy:List Nat:=[5,0,4,9,1,17]
def anZ:=aD func118 call118
def aiT:List Nat:=[0,2,3,10,17]
def qK(x:Tm):List Tm:=if x.k=2 then x.a else[]
mutual def dm:Tm->Nat|⟨k,i,n,a⟩=>if k=2 then 1+bt a else 1def bt:List Tm->Nat|[]=>0|x::l=>dm x+bt l end
mutual def qL:Tm->Nat|⟨k,i,n,a⟩=>if k=2 then 1+lJ a else 1def lJ:List Tm->Nat|[]=>0|x::l=>max (qL x) (lJ l)end
theorem DD(x:Tm):dm x=1+bt (qK x):=by let⟨k,i,n,a⟩:=x;rw[dm,qK];split<;>rfl
theorem Ma(x:Tm):qL x=1+lJ (qK x):=by let⟨k,i,n,a⟩:=x;rw[qL,qK];split<;>rfl
theorem uw(x:Tm):1<=dm x:=by rw[DD];omega
theorem agR:∀x:Tm,qL x<=dm x:=by
 refine Tm.ind ?_;intro k i n a c;have key:∀l:List Tm,(∀x∈l,qL x<=dm x)->lJ l<=bt l:=by intro l;induction l with|nil=>intro _;exact aa_ 0|cons x l b =>intro h;have d:=h x aB;have e:=b λy f=>h y I;rw[lJ,bt];omega
 rw[qL,dm];split;grind;grind
theorem BY:∀(l:List Tm)(k:Nat),bt (l.drop k)<=bt l|[],k=>aB|x::l,0=>aB|x::l,k+1=>by rw[List.drop_succ_cons,bt];have:=BY l k;omega
theorem yT:∀l:List Tm,l.length<=bt l|[]=>aa_ 0|x::l=>by have:=yT l;have:=uw x;rw[bt,aC_];omega
theorem Mb(x:Tm):ab Y 87 [tm O x] (tl O (qK x)):=by
 let⟨k,i,n,a⟩:=x;refine st atA g87 (c9 _) ?_;repeat' first|refine cg g87 (λb=>?_) λb=>?_|refine fq ?_
 rw[qK,if_pos b];exact aH.of_eq rfl;grind[qK,tl,bF,aH.wk]
theorem aiU(x:Tm):ab Y 298 [tm O x] (tl O (qK x)):=by
 let⟨k,i,n,a⟩:=x;refine st anW aiS (c9 _) ?_;repeat' first|refine cg aiS (λb=>?_) λb=>?_|refine fq ?_
 rw[qK,if_pos b];exact aH.of_eq rfl;grind[qK,tl,bF,aH.wk]
theorem aiV(l:List Int)(v:Int)(h:l.length<=1099511627776):ab Y 252 [aY O aR false l,iv v] (.v (.bool (l.contains v))):=by
 refine st anY zy .v ?_;refine bE 0 0 [] (λi=>[(0,aY O aR false l),(1,.v (.int .i64 v)),(5,.v (.int .i64 i))]) [] (λ_=>[]) l.length (λk=>l.contains v=(l.drop k).contains v) aB λi k c j a=>?_;refine Z zy ?_;by_cases d:k<l.length
 ·let⟨x,e,f⟩:=aA d;rw[f,cY_]at a;repeat' first|refine og zy (D.bh c e) ?_|refine cg zy (λb=>?_) λb=>?_|refine lg zy λm g=>?_|refine ag zy λ_ _=>?_|refine xG zy ?_|refine rG zy ?_|refine fq ?_
  all_goals first|refine H.bO _ [] ?_ ?_ cq;grind;omega|refine aL ?_;rw[a];simp;left;omega|omega
 ·skip;repeat' first|refine cg zy (λb=>?_) λb=>?_|refine lg zy λm g=>?_|refine xG zy ?_|refine fq ?_
  all_goals first|omega|rw[a,al_ X];exact aL rfl
theorem agS(o:Int):ab Y 118 [iv o] (iv (if o=1\/o=2 then 0 else if o=11\/o=12 then 1 else if o>2/\o<11 then 2 else-1)):=by
 refine st anZ aiT .v ?_;repeat' first|refine cg aiT (λa=>?_) λa=>?_|refine fq ?_
 all_goals refine dx ?_;(repeat' split)<;>first|rfl|omega
theorem HZ(n:Nat):∀x:Tm,dm x<=n->n<=1099511627776->ab Y 42 [tm O x] (iv (dm x)):=by induction n with|zero=>intro x h;have:=uw x;omega|succ n e =>
  intro x w z;have f:=DD x;have g:=yT (qK x);let⟨A,j⟩:=aq (qK x);rw[<-j]at f g;have o:ab Y 87 [tm O x] (tl O A):=by grind[Mb]
  refine st atB EY .v ?_;repeat' first|apply a8 EY o
  refine cr (τ:=Int) 1 1 [] (λp=>[(3,.v (.int .i64 p.2)),(4,tl O A),(5,.v (.int .i64 p.1))]) [] (λ_=>[]) A.length (λk p=>0<=p.2/\p.2+bt (A.drop k)=dm x) 1 ⟨aB,I⟩ ?_;rintro i k c d C⟨q,a⟩;simp only at d q a;refine Z EY ?_;by_cases r:k<A.length
  ·let⟨y,s,t⟩:=aA r;have u:=BY A k;rw[t,bt]at a u;have E:=uw y;repeat' first|refine og EY (D.ind rfl rfl (cD (l:=A) d s) cE) ?_|refine ig EY (pl (e y X X)) λ_ _=>?_|refine cg EY (λb=>?_) λb=>?_|refine lg EY λm v=>?_|refine ag EY λ_ _=>?_|refine xG EY ?_|refine fq ?_
   all_goals first|omega|refine H.bO (_,_) [] ?_ ?_ cq;grind;simp only;omega
  ·skip;repeat' first|refine cg EY (λb=>?_) λb=>?_|refine lg EY λm v=>?_|refine xG EY ?_|refine fq ?_
   all_goals first|omega|rw[al_ X,bt]at a;exact dx X
def an0:=aD func296 call296
def aiW:List Nat:=[0,2]
def an1:=aD func249 call249
def sT:List Nat:=[1,6,4,2,0,7,28,49,3,78,83,92]
def an2:=aD func183 call183
def PF:List Nat:=[1,2,0]
def an3:=aD func119 call119
def wu:List Nat:=[4,0,3,2,8,16]
def an4:=aD func117 call117
def PG:List Nat:=[1,2,0]
def atC:=aD func55 call55
def Up:List Nat:=[1,2,0,5]
def eR(s:ByteArray):Bool:=s.toList==(⟨#[43]⟩:ByteArray).toList||s.toList==(⟨#[45]⟩:ByteArray).toList||s.toList==(⟨#[42]⟩:ByteArray).toList||s.toList==(⟨#[47]⟩:ByteArray).toList||s.toList==(⟨#[37]⟩:ByteArray).toList
def x9(n:ByteArray)(a:List Tm):Bool:=n.toList==(⟨#[]⟩:ByteArray).toList&&a.isEmpty
mutual def lK:Tm->Bool|⟨k,i,n,a⟩=>if k=0 then decide (-2147483648<=i)&&decide (i<=2147483648)&&x9 n a else if k=1 then decide (0<=i)&&decide (i<=1048576)&&x9 n a else if k=2 then i==0&&(eR n&&a.length==2||nZ n&&decide (a.length<=6))&&kW a else false def kW:List Tm->Bool|[]=>true|x::l=>lK x&&kW l end
def cK(x:Tm):Bool:=lK x&&decide (dm x<=200)&&decide (qL x<=20)
def nU(l:List Tm):Bool:=l.all cK&&decide (bt l<=200)
theorem Uq{B sz fz:Nat}{row:List AV}{ex:Bool}(h:∀a∈row,Pure a):kH B (.arr sz [row] fz ex):=λr b a c=>by cases ak_.1 b;exact(h a c).bu
theorem abL(n:Nat):∀x:Tm,dm x<=n->n<=1099511627776->ab Y 250 [tm O x] (iv (qL x)):=by induction n with|zero=>intro x h;have:=uw x;omega|succ n f =>
  intro x B C;have g:=DD x;have j:=Ma x;have o:=yT (qK x);have q:=agR x;let⟨A,r⟩:=aq (qK x);rw[<-r]at g o j;have s:ab Y 87 [tm O x] (tl O A):=by grind[Mb]
  refine st anX uZ .v ?_;repeat' first|apply a8 uZ s
  refine cr (τ:=Int) 1 1 [] (λp=>[(3,.v (.int .i64 p.2)),(4,tl O A),(5,.v (.int .i64 p.1))]) [] (λ_=>[]) A.length (λk p=>0<=p.2/\max p.2 (lJ (A.drop k):Int)=lJ A) 0 ⟨aB,aB⟩ ?_;rintro i k c d F⟨t,a⟩;simp only at d t a;refine Z uZ ?_;by_cases u:k<A.length
  ·let⟨y,v,e⟩:=aA u;have w:=BY A k;rw[e,lJ]at a;rw[e,bt]at w;have G:=uw y;repeat' first|refine og uZ (D.ind rfl rfl (cD (l:=A) d v) cE) ?_|refine ig uZ (pl (f y X X)) λ_ _=>?_|refine ig uZ (D.max rfl rfl) λ_ _=>?_|refine cg uZ (λb=>?_) λb=>?_|refine lg uZ λm z=>?_|refine ag uZ λ_ _=>?_|refine xG uZ ?_|refine fq ?_
   all_goals first|omega|refine H.bO (_,_) [] ?_ ?_ cq;exact⟨k+1,I,X,I,I⟩;simp only;omega
  ·skip;repeat' first|refine cg uZ (λb=>?_) λb=>?_|refine lg uZ λm z=>?_|refine ag uZ λ_ _=>?_|refine xG uZ ?_|refine fq ?_
   all_goals first|omega|rw[al_ X,lJ]at a;exact dx X
theorem Ur(s:ByteArray):ab Y 296 [.v (.string s)] (.v (.bool (eR s))):=by
 refine st an0 aiW .v ?_;repeat' first|refine cg aiW (λa=>?_) λa=>?_|refine fq ?_
 all_goals refine aH.of_eq ?_;simp_all[eR]
theorem aiX(x:Tm)(d:x.ok):ab Y 249 [tm O x] (.v (.bool (lK x))):=by
 revert d;refine Tm.ind (p:=λx=>x.ok->ab Y 249 [tm O x] (.v (.bool (lK x)))) ?_ x;intro k i n a s d;let⟨v,t,h⟩:=d.out;dsimp only at v t h;rw[lK];have e:a.isEmpty=decide ((a.length:Int)=0):=by cases a with|nil=>rfl|cons x l=>simp;omega
 rw[x9,e];have f:(a.length==2)=decide ((a.length:Int)=2):=I;have g:decide (a.length<=6)=decide ((a.length:Int)<=6):=decide_eq_decide.2 X;rw[f,g];let⟨V,b⟩:=aq (lK ⟨k,i,n,a⟩);rw[lK,x9,e,f,g]at b;rw[<-b];refine st an1 sT .v ?_;repeat' first|refine bg sT (pl (Ur _)) (λ_=>?_) λ_=>?_|refine bg sT (pl (DF _ t)) (λ_=>?_) λ_=>?_|refine cg sT (λc=>?_) λc=>?_|refine lg sT λm u=>?_|refine fq ?_
 all_goals try refine aL ?_;rw[b];clear s d h e f g b;subst_vars;simp_all<;>(intros;omega)
 all_goals
  have C:V=kW a:=I;clear b e f g;refine bE 1 1 [] (λj=>[(1,.pt 0 4 0 0),(4,.v (.int .i64 j))]) [] (λ_=>[(0,.arr 4 [ld O ⟨k,i,n,a⟩] 0 true)]) a.length (λq=>V=kW (a.drop q)) I λj q w E o=>?_;refine Z sT ?_;by_cases z:q<a.length
  ·let⟨y,r,A⟩:=aA z;rw[A,kW]at o;have B:=s y (aW r) (h.mem y (aW r));repeat' first|refine og sT (D.ind rfl rfl (cD (l:=a) w r) cE) ?_|refine bg sT (pl B) (λ_=>?_) λ_=>?_|refine cg sT (λc=>?_) λc=>?_|refine lg sT λm u=>?_|refine ag sT λ_ _=>?_|refine xG sT ?_|refine rG sT ?_|refine fq ?_
   all_goals first|refine H.bO _ [] ?_ ?_ cz;grind;omega|refine aL ?_;rw[o];simp_all;done
  ·skip;repeat' first|refine cg sT (λc=>?_) λc=>?_|refine lg sT λm u=>?_|refine xG sT ?_|refine fq ?_
   all_goals first|omega|rw[o,al_ X,kW];exact aL rfl
theorem Nj:∀{l:List Tm},∀x∈l,dm x<=bt l|[],x,h=>I|y::l,x,h=>by rw[bt];rcases ae_.1 h with rfl|h;omega;have:=Nj x h;omega
def o6(l:List Tm):Prop:=dS l/\bt l<=1099511627776
theorem o6.len{l:List Tm}(h:o6 l):l.length<=1099511627776:=az_ (yT l) h.2
def ft(x:At):Bool:=nZ x.n&&decide (x.a.length<=6)&&nU x.a
def arity(o:Int):Int:=if o=1\/o=2 then 0 else if o=11\/o=12 then 1 else if o>2/\o<11 then 2 else-1
def de(x:Gl):Bool:=if x.op=0 then ft ⟨x.n,x.a⟩ else x.n.toList==(⟨#[]⟩:ByteArray).toList&&decide (arity x.op=x.a.length)&&nU x.a
theorem DG(x:Tm)(a:x.ok)(hs:dm x<=1099511627776):ab Y 183 [tm O x] (.v (.bool (cK x))):=by
 refine st an2 PF .v ?_;repeat' first|refine bg PF (pl (aiX (O:=O) x a)) (λ_=>?_) λ_=>?_|refine ig PF (pl (HZ (O:=O) _ x (aa_ _) hs)) λ_ _=>?_|refine ig PF (pl (abL (O:=O) _ x (aa_ _) hs)) λ_ _=>?_|refine cg PF (λb=>?_) λb=>?_|refine fq ?_
 all_goals refine aL ?_;subst_vars;clear hs a;simp_all[cK]<;>(intros;omega)
theorem IJ(a:List Tm)(g:o6 a):ab Y 119 [tl O a] (.v (.bool (nU a))):=by
 have u:=g.len;let⟨o,v⟩:=g;refine st an3 wu .v ?_;refine cr (τ:=Int) 0 0 [] (λp=>[(0,tl O a),(3,.v (.int .i64 p.2)),(4,.v (.int .i64 p.1))]) [] (λ_=>[]) a.length (λk p=>0<=p.2/\p.2+bt (a.drop k)=bt a/\a.all cK=(a.drop k).all cK) 0 ⟨aB,aB,aB⟩ ?_;rintro i k c h x⟨q,b,d⟩;simp only at h q b;refine Z wu ?_;by_cases r:k<a.length
 ·let⟨y,e,j⟩:=aA r;rw[j,bt]at b;rw[j,aJ_]at d;have n:=Nj y (aW e);have s:=DG (Y:=Y) (O:=O) y (o.mem y (aW e)) X;have t:=HZ (Y:=Y) (O:=O) _ y (aa_ _) X;repeat' first|refine og wu (D.ind rfl rfl (cD (l:=a) h e) cE) ?_|refine bg wu (pl s) (λ_=>?_) λ_=>?_|refine ig wu (pl t) λ_ _=>?_|refine cg wu (λf=>?_) λf=>?_|refine lg wu λm n=>?_|refine ag wu λ_ _=>?_|refine xG wu ?_|refine rG wu ?_|refine fq ?_
  all_goals first|refine H.bO (_,_) [] ?_ ?_ cq;grind;simp only;omega|refine aL ?_;rw[nU,d];simp_all;done
 ·skip;repeat' first|refine cg wu (λf=>?_) λf=>?_|refine lg wu λm n=>?_|refine xG wu ?_|refine fq ?_
  all_goals first|omega|rw[al_ X]at b d;rw[bt]at b;refine aL ?_;rw[nU,d];simp;omega
theorem Jv(x:At)(b:o6 x.a)(c:x.n.size<=1099511627776):ab Y 117 [at_ O x] (.v (.bool (ft x))):=by
 let⟨n,a⟩:=x;dsimp only at b c;have d:decide (a.length<=6)=decide ((a.length:Int)<=6):=decide_eq_decide.2 X;rw[ft,d];refine st an4 PG .v ?_;repeat' first|refine bg PG (pl (DF _ c)) (λ_=>?_) λ_=>?_|refine bg PG (pl (IJ _ b)) (λ_=>?_) λ_=>?_|refine cg PG (λe=>?_) λe=>?_|refine lg PG λm f=>?_|refine fq ?_
 all_goals refine aL ?_;subst_vars;simp_all<;>(intros;omega)
def aiY(o:Int):ab Y 118 [iv o] (iv (arity o)):=agS o
theorem zz(x:Gl)(b:o6 x.a)(c:x.n.size<=1099511627776):ab Y 55 [gl O x] (.v (.bool (de x))):=by
 let⟨o,n,a⟩:=x;dsimp only at b c;rw[de];refine st atC Up .v ?_;repeat' first|refine bg Up (pl (Jv (O:=O) ⟨n,a⟩ b c)) (λ_=>?_) λ_=>?_|refine bg Up (pl (IJ _ b)) (λ_=>?_) λ_=>?_|refine ig Up (pl (aiY _)) λ_ _=>?_|refine cg Up (λd=>?_) λd=>?_|refine lg Up λm e=>?_|refine fq ?_
 all_goals refine aL ?_;subst_vars;simp_all<;>(intros;omega)
end
end Go.Proofs.YtbdcmpknicjopaaGreat
