import Derived.Lib.Bytealg
import Derived.Test.YtbdcmpknicjopaaGreatTb10
namespace Go.Proofs.YtbdcmpknicjopaaGreat
set_option linter.all false
set_option maxRecDepth 100000
open Go.RowKit Proofs.Tryz
variable{O:Hd}{Y:World}
section
attribute [local irreducible] ao aF D H
def OW:=aD func190 call190
def mP:List Nat:=[4,0,24,2,6,1,22,25,46,67,77,93]
def an5:=aD func189 call189
def zA:List Nat:=[10,1,6,9,11,0,7,2,20]
mutual def bH:Tm->Int->Int->Bool×Int|⟨k,i,n,a⟩,d,c=>if c-1<0\/d<1 then(false,c-1) else if k=0 then(decide (-2147483648<=i)&&decide (i<=2147483648)&&x9 n a,c-1) else if k=1 then(decide (0<=i)&&decide (i<=1048576)&&x9 n a,c-1)else if k=2 then if i≠0\/(a.length:Int)>6 then(false,c-1) else if nZ n||eR n&&a.length==2 then dA a (d-1) (c-1) else(false,c-1) else(false,c-1)def dA:List Tm->Int->Int->Bool×Int|[],d,c=>(true,c)|x::l,d,c=>if(bH x d c).1 then dA l d (bH x d c).2 else(false,(bH x d c).2)end
theorem jf{N:Nat}{l:List (Nat×Ob)}(h:l.all (λp=>Nat.blt p.1 N)=true):∀k o,fJ l k=some o->k<N:=λk o a=>by have:=aY_.1 h _ (fW a);exact nq this
theorem o8{N d:Nat}{f:Nat->Option Ob}{a:Option Ob}(h:∀k o,f k=some o->k<N)(b:Nat.blt d N=true):∀k o,bL f d a k=some o->k<N:=λk o c=>by grind[nq,aP]
def jU(c:Int):Ob:=.arr 1 [[iv c]] 0 true
theorem mB(c:Int):∀row∈[[iv c]],∀a∈row,Pure a:=λrow b a d=>by cases ak_.1 b;cases ak_.1 d;exact .v
theorem o9{B:Nat}(c:Int):kH B (jU c):=Uq (row:=[iv c]) (by intro a b;cases ak_.1 b;exact .v)
theorem Co{a:List Tm}(d:Int)(v:∀x∈a,∀c,0<=c->c<=200->(0<=(bH x d c).2\/(bH x d c).1=false)/\(bH x d c).2<=c/\aF prog Y 190 [.pt 0 1 0 0,tm O x,iv d] (aw [(0,jU c)] 1) (.v (.bool (bH x d c).1)) (aw [(0,jU (bH x d c).2)] 1))(F:a.length<=1099511627776)(c:Int)(w:0<=c)(z:c<=200):aF prog Y 189 [.pt 0 1 0 0,tl O a,iv d] (aw [(0,jU c)] 1) (.v (.bool (dA a d c).1)) (aw [(0,jU (dA a d c).2)] 1):=by
 let⟨R,o⟩:=aq (dA a d c);rw[<-o];refine sc 1 1 an5 ?_;refine Z zA ?_;repeat' first|refine lg zA λm G=>?_
 refine cr (τ:=Int) 1 1 [] (λp=>[(0,.pt 0 1 0 0),(1,tl O a),(2,iv d),(9,.v (.int .i64 m)),(10,.v (.int .i64 p.1))]) [] (λp=>[(0,jU p.2)]) a.length (λk p=>0<=p.2/\p.2<=200/\R=dA (a.drop k) d p.2) c ⟨w,z,o⟩ ?_;rintro i k c q K⟨r,s,f⟩;simp only at q r s f;refine Z zA ?_;by_cases A:k<a.length
 ·let⟨y,t,B⟩:=aA A;rw[B,dA]at f;let⟨j,u,n⟩:=v y (aW t) c r s;let⟨⟨b,h⟩,C⟩:∃p,p=bH y d c:=⟨_,rfl⟩;rw[<-C]at j u n f;simp only at j u n f;repeat' first|refine og zA (D.ind rfl rfl (cD (l:=a) q t) cE) ?_|refine bg zA (D.n0 (m:=[(0,0)]) (to:=[(0,some (jU h))]) n rfl ⟨Rn.pt rfl rfl,Rn.pure (bI _),Rn.pure .v,trivial⟩ (Rb.pure .v) rfl rfl ⟨⟨_,rfl,lU.pure (mB _)⟩,trivial⟩ ⟨⟨0,_,rfl,rfl,m7.pure (mB _)⟩,trivial⟩ rfl (jf rfl) (.inr rfl)) (λg=>?_) λg=>?_|refine cg zA (λg=>?_) λg=>?_|refine ag zA λ_ _=>?_|refine xG zA ?_|refine rG zA ?_|refine fq ?_
  all_goals first
   |(have e:R=(false,h):=by rw[f,g];rfl
     rw[e];exact⟨[],.aK .v,⟨.inl ⟨_,rfl,.same (o9 _)⟩,trivial⟩,rfl⟩)
   |(have e:R=dA (a.drop (k+1)) d h:=by rw[f,if_pos g]
     have E:0<=h:=j.resolve_right (by rw[g];simp);exact bP (_,h) [] (k+1) ⟨E,by simp only;omega,e⟩)|omega
 ·skip;repeat' first|refine cg zA (λg=>?_) λg=>?_|refine xG zA ?_|refine fq ?_
  all_goals first|omega|rw[al_ X,dA]at f;rw[f];exact⟨[],.aK .v,⟨.inl ⟨_,rfl,.same (o9 _)⟩,trivial⟩,rfl⟩
theorem KB:∀(l:List Tm)(d:Int)(h:∀x∈l,∀c,0<=c->(0<=(bH x d c).2\/(bH x d c).1=false)/\(bH x d c).2<=c)(c:Int),0<=c->(0<=(dA l d c).2\/(dA l d c).1=false)/\(dA l d c).2<=c|[],d,h,c,a=>by grind[dA]|x::l,d,h,c,a=>by let⟨b,g⟩:=h x aB c a;rw[dA];split;rename_i i;have e:=b.resolve_right I;let⟨f,j⟩:=KB l d (λy k=>h y I) _ e;exact⟨f,X⟩;grind
theorem kI(x:Tm):∀(d c:Int),0<=c->(0<=(bH x d c).2\/(bH x d c).1=false)/\(bH x d c).2<=c:=by refine Tm.ind (p:=λx=>∀(d c:Int),0<=c->(0<=(bH x d c).2\/(bH x d c).1=false)/\(bH x d c).2<=c) ?_ x;intro k i n a e d c b;rw[bH];have f:=KB a (d-1) (λy g c b=>e y g (d-1) c b) (c-1);(repeat' split)<;>first|exact⟨.inr rfl,I⟩|exact⟨.inl I,I⟩|let⟨h,j⟩:=f X;exact⟨h,X⟩
theorem agU(G:∀s:ByteArray,ab Y 253 [.v (.string s)] (.v (.bool (eR s))))(k i:Int)(n:ByteArray)(a:List Tm)(t:∀x∈a,∀(d c:Int),x.ok->0<=c->c<=200->-1000<=d->d<=1000->aF prog Y 190 [.pt 0 1 0 0,tm O x,iv d] (aw [(0,jU c)] 1) (.v (.bool (bH x d c).1)) (aw [(0,jU (bH x d c).2)] 1))(d c:Int)(u:(Tm.mk k i n a).ok)(L:0<=c)(M:c<=200)(N:-1000<=d)(P:d<=1000)(J:k=0):aF prog Y 190 [.pt 0 1 0 0,tm O ⟨k,i,n,a⟩,iv d] (aw [(0,jU c)] 1) (.v (.bool (bH ⟨k,i,n,a⟩ d c).1)) (aw [(0,jU (bH ⟨k,i,n,a⟩ d c).2)] 1):=by
 subst J;let⟨g,v,h⟩:=u.out;dsimp only at g v h;have w:a.isEmpty=decide ((a.length:Int)=0):=by cases a with|nil=>rfl|cons x l=>simp;omega
 have z:(a.length==2)=decide ((a.length:Int)=2):=by rw[bG_];simp;omega
 let⟨R,b⟩:=aq (bH ⟨0,i,n,a⟩ d c);rw[<-b];rw[bH,x9,w,z]at b;have f:∀j,j=d-1->0<=c-1->1<=d->aF prog Y 189 [.pt 0 1 0 0,tl O a,iv j] (aw [(0,jU (c-1))] 1) (.v (.bool (dA a (d-1) (c-1)).1)) (aw [(0,jU (dA a (d-1) (c-1)).2)] 1):=λj K o Q=>by subst K;exact Co (d-1) (λy A S q o=>⟨(kI y _ _ q).1,(kI y _ _ q).2,t y A _ _ (h.mem y A) q o X X⟩) g (c-1) o X
 let⟨⟨T,V⟩,B⟩:∃p,p=dA a (d-1) (c-1):=⟨_,rfl⟩;rw[<-B]at f b;simp only at f;let⟨ce,C⟩:=aq (c-1);rw[<-C]at f b;clear t B;refine sc 1 1 OW ?_;refine Z mP ?_;refine H.int rfl (D.yU (c:=c-1) rfl rfl rfl X X) λe E=>?_;rw[<-C]at E;subst E;refine Z mP ?_;repeat' first|exact dF F|refine cg mP (λF=>?_) λF=>?_|refine lg mP λm W=>?_|refine fq ?_
 all_goals clear G f u g v h w z
 all_goals first
  |(have r:R=(false,e):=by rw[b];first|rw[if_pos X]|rw[if_neg X,if_pos rfl];refine Prod.ext ?_ rfl;simp_all<;>(intros;omega)
    rw[r];exact⟨[],.aK .v,⟨.inl ⟨_,rfl,.same (o9 _)⟩,trivial⟩,rfl⟩)
  |(have r:R=(true,e):=by rw[b,if_neg X,if_pos rfl];refine Prod.ext ?_ rfl;simp_all<;>(intros;omega)
    rw[r];exact⟨[],.aK .v,⟨.inl ⟨_,rfl,.same (o9 _)⟩,trivial⟩,rfl⟩)
theorem agV(G:∀s:ByteArray,ab Y 253 [.v (.string s)] (.v (.bool (eR s))))(k i:Int)(n:ByteArray)(a:List Tm)(t:∀x∈a,∀(d c:Int),x.ok->0<=c->c<=200->-1000<=d->d<=1000->aF prog Y 190 [.pt 0 1 0 0,tm O x,iv d] (aw [(0,jU c)] 1) (.v (.bool (bH x d c).1)) (aw [(0,jU (bH x d c).2)] 1))(d c:Int)(u:(Tm.mk k i n a).ok)(L:0<=c)(M:c<=200)(N:-1000<=d)(P:d<=1000)(J:k=1):aF prog Y 190 [.pt 0 1 0 0,tm O ⟨k,i,n,a⟩,iv d] (aw [(0,jU c)] 1) (.v (.bool (bH ⟨k,i,n,a⟩ d c).1)) (aw [(0,jU (bH ⟨k,i,n,a⟩ d c).2)] 1):=by
 subst J;let⟨g,v,h⟩:=u.out;dsimp only at g v h;have w:a.isEmpty=decide ((a.length:Int)=0):=by cases a with|nil=>rfl|cons x l=>simp;omega
 have z:(a.length==2)=decide ((a.length:Int)=2):=by rw[bG_];simp;omega
 let⟨R,b⟩:=aq (bH ⟨1,i,n,a⟩ d c);rw[<-b];rw[bH,x9,w,z]at b;have f:∀j,j=d-1->0<=c-1->1<=d->aF prog Y 189 [.pt 0 1 0 0,tl O a,iv j] (aw [(0,jU (c-1))] 1) (.v (.bool (dA a (d-1) (c-1)).1)) (aw [(0,jU (dA a (d-1) (c-1)).2)] 1):=λj K o Q=>by subst K;exact Co (d-1) (λy A S q o=>⟨(kI y _ _ q).1,(kI y _ _ q).2,t y A _ _ (h.mem y A) q o X X⟩) g (c-1) o X
 let⟨⟨T,V⟩,B⟩:∃p,p=dA a (d-1) (c-1):=⟨_,rfl⟩;rw[<-B]at f b;simp only at f;let⟨ce,C⟩:=aq (c-1);rw[<-C]at f b;clear t B;refine sc 1 1 OW ?_;refine Z mP ?_;refine H.int rfl (D.yU (c:=c-1) rfl rfl rfl X X) λe E=>?_;rw[<-C]at E;subst E;refine Z mP ?_;repeat' first|exact dF F|refine cg mP (λF=>?_) λF=>?_|refine lg mP λm W=>?_|refine fq ?_
 all_goals clear G f u g v h w z
 all_goals first
  |(have r:R=(false,e):=by rw[b];first|rw[if_pos X]|rw[if_neg X,if_neg aC,if_pos rfl];refine Prod.ext ?_ rfl;simp_all<;>(intros;omega)
    rw[r];exact⟨[],.aK .v,⟨.inl ⟨_,rfl,.same (o9 _)⟩,trivial⟩,rfl⟩)
  |(have r:R=(true,e):=by rw[b,if_neg X,if_neg aC,if_pos rfl];refine Prod.ext ?_ rfl;simp_all<;>(intros;omega)
    rw[r];exact⟨[],.aK .v,⟨.inl ⟨_,rfl,.same (o9 _)⟩,trivial⟩,rfl⟩)
theorem agW(w:∀s:ByteArray,ab Y 253 [.v (.string s)] (.v (.bool (eR s))))(k i:Int)(n:ByteArray)(a:List Tm)(z:∀x∈a,∀(d c:Int),x.ok->0<=c->c<=200->-1000<=d->d<=1000->aF prog Y 190 [.pt 0 1 0 0,tm O x,iv d] (aw [(0,jU c)] 1) (.v (.bool (bH x d c).1)) (aw [(0,jU (bH x d c).2)] 1))(d c:Int)(A:(Tm.mk k i n a).ok)(M:0<=c)(N:c<=200)(P:-1000<=d)(Q:d<=1000)(K:k=2):aF prog Y 190 [.pt 0 1 0 0,tm O ⟨k,i,n,a⟩,iv d] (aw [(0,jU c)] 1) (.v (.bool (bH ⟨k,i,n,a⟩ d c).1)) (aw [(0,jU (bH ⟨k,i,n,a⟩ d c).2)] 1):=by
 subst K;let⟨j,o,q⟩:=A.out;dsimp only at j o q;have B:a.isEmpty=decide ((a.length:Int)=0):=by cases a with|nil=>rfl|cons x l=>simp;omega
 have C:(a.length==2)=decide ((a.length:Int)=2):=by rw[bG_];simp;omega
 let⟨R,b⟩:=aq (bH ⟨2,i,n,a⟩ d c);rw[<-b];rw[bH,x9,B,C]at b;have g:∀r,r=d-1->0<=c-1->1<=d->aF prog Y 189 [.pt 0 1 0 0,tl O a,iv r] (aw [(0,jU (c-1))] 1) (.v (.bool (dA a (d-1) (c-1)).1)) (aw [(0,jU (dA a (d-1) (c-1)).2)] 1):=λr L t S=>by subst L;exact Co (d-1) (λy E T u t=>⟨(kI y _ _ u).1,(kI y _ _ u).2,z y E _ _ (q.mem y E) u t X X⟩) j (c-1) t X
 let⟨⟨V,v⟩,F⟩:∃p,p=dA a (d-1) (c-1):=⟨_,rfl⟩;rw[<-F]at g b;simp only at g;let⟨ce,G⟩:=aq (c-1);rw[<-G]at g b;clear z F;refine sc 1 1 OW ?_;refine Z mP ?_;refine H.int rfl (D.yU (c:=c-1) rfl rfl rfl X X) λe J=>?_;rw[<-G]at J;subst J;refine Z mP ?_;repeat' first|refine bg mP (pl (Cp _ o)) (λ_=>?_) λ_=>?_|refine bg mP (pl (w _)) (λ_=>?_) λ_=>?_|refine bg mP (D.n0 (m:=[(0,0)]) (to:=[(0,some (jU v))]) (g _ (by assumption) X X) rfl ⟨Rn.pt rfl rfl,Rn.pure (c9 _),Rn.pure .v,trivial⟩ (Rb.pure .v) rfl rfl ⟨⟨_,rfl,lU.pure (mB _)⟩,trivial⟩ ⟨⟨0,_,rfl,rfl,m7.pure (mB _)⟩,trivial⟩ rfl (by repeat first|exact jf rfl|refine o8 ?_ rfl) (.inr rfl)) (λf=>?_) λf=>?_|exact dF f|refine cg mP (λf=>?_) λf=>?_|refine lg mP λm W=>?_|refine ag mP λ_ _=>?_|refine fq ?_
 all_goals clear w g A j o q B C
 all_goals rw[if_neg (by decide:¬(2:Int)=0),if_neg (by decide:¬(2:Int)=1),if_pos rfl]at b
 all_goals first
  |(have h:R=(false,e):=by rw[b];first|rw[if_pos X]|rw[if_neg X,if_pos X]|rw[if_neg X,if_neg X,if_neg I]
    rw[h];exact⟨[],.aK .v,⟨.inl ⟨_,rfl,.same (o9 _)⟩,trivial⟩,rfl⟩)
  |(have h:R=(true,v):=by rw[b,if_neg X,if_neg X,if_pos I,f]
    rw[h];exact⟨[],.aK .v,⟨.inl ⟨_,rfl,.same (o9 _)⟩,trivial⟩,rfl⟩)
  |(have h:R=(false,v):=by rw[b,if_neg X,if_neg X,if_pos (by clear b;simp_all),f]
    rw[h];exact⟨[],.aK .v,⟨.inl ⟨_,rfl,.same (o9 _)⟩,trivial⟩,rfl⟩)
theorem agX(u:∀s:ByteArray,ab Y 253 [.v (.string s)] (.v (.bool (eR s))))(k i:Int)(n:ByteArray)(a:List Tm)(v:∀x∈a,∀(d c:Int),x.ok->0<=c->c<=200->-1000<=d->d<=1000->aF prog Y 190 [.pt 0 1 0 0,tm O x,iv d] (aw [(0,jU c)] 1) (.v (.bool (bH x d c).1)) (aw [(0,jU (bH x d c).2)] 1))(d c:Int)(w:(Tm.mk k i n a).ok)(Q:0<=c)(S:c<=200)(T:-1000<=d)(V:d<=1000)(G:¬k=0/\¬k=1/\¬k=2):aF prog Y 190 [.pt 0 1 0 0,tm O ⟨k,i,n,a⟩,iv d] (aw [(0,jU c)] 1) (.v (.bool (bH ⟨k,i,n,a⟩ d c).1)) (aw [(0,jU (bH ⟨k,i,n,a⟩ d c).2)] 1):=by
 let⟨J,K,L⟩:=G;let⟨g,h,j⟩:=w.out;dsimp only at g h j;have z:a.isEmpty=decide ((a.length:Int)=0):=by cases a with|nil=>rfl|cons x l=>simp;omega
 have A:(a.length==2)=decide ((a.length:Int)=2):=by rw[bG_];simp;omega
 let⟨R,b⟩:=aq (bH ⟨k,i,n,a⟩ d c);rw[<-b];rw[bH,x9,z,A]at b;have f:∀o,o=d-1->0<=c-1->1<=d->aF prog Y 189 [.pt 0 1 0 0,tl O a,iv o] (aw [(0,jU (c-1))] 1) (.v (.bool (dA a (d-1) (c-1)).1)) (aw [(0,jU (dA a (d-1) (c-1)).2)] 1):=λo M q W=>by subst M;exact Co (d-1) (λy B c' r q=>⟨(kI y _ _ r).1,(kI y _ _ r).2,v y B _ _ (j.mem y B) r q X X⟩) g (c-1) q X
 let⟨⟨b1,N⟩,C⟩:∃p,p=dA a (d-1) (c-1):=⟨_,rfl⟩;rw[<-C]at f b;simp only at f;let⟨ce,E⟩:=aq (c-1);rw[<-E]at f b;clear v C;refine sc 1 1 OW ?_;refine Z mP ?_;refine H.int rfl (D.yU (c:=c-1) rfl rfl rfl X X) λe F=>?_;rw[<-E]at F;subst F;refine Z mP ?_;repeat' first|refine bg mP (pl (Cp _ h)) (λ_=>?_) λ_=>?_|refine bg mP (pl (u _)) (λ_=>?_) λ_=>?_|refine bg mP (D.n0 (m:=[(0,0)]) (to:=[(0,some (jU N))]) (f _ (by assumption) X X) rfl ⟨Rn.pt rfl rfl,Rn.pure (c9 _),Rn.pure .v,trivial⟩ (Rb.pure .v) rfl rfl ⟨⟨_,rfl,lU.pure (mB _)⟩,trivial⟩ ⟨⟨0,_,rfl,rfl,m7.pure (mB _)⟩,trivial⟩ rfl (by repeat first|exact jf rfl|refine o8 ?_ rfl) (.inr rfl)) (λt=>?_) λt=>?_|refine cg mP (λt=>?_) λt=>?_|refine lg mP λm hm=>?_|refine ag mP λ_ _=>?_|refine fq ?_
 all_goals clear u f w g h j z A
 all_goals first
  |omega
  |(have P:R=(false,e):=by rw[b,if_neg J,if_neg K,if_neg L,ite_self]
    rw[P];exact⟨[],.aK .v,⟨.inl ⟨_,rfl,.same (o9 _)⟩,trivial⟩,rfl⟩)
theorem Mc(b:∀s:ByteArray,ab Y 253 [.v (.string s)] (.v (.bool (eR s))))(x:Tm):∀(d c:Int),x.ok->0<=c->c<=200->-1000<=d->d<=1000 ->aF prog Y 190 [.pt 0 1 0 0,tm O x,iv d] (aw [(0,jU c)] 1) (.v (.bool (bH x d c).1)) (aw [(0,jU (bH x d c).2)] 1):=by refine Tm.ind (p:=λx=>∀(d c:Int),x.ok->0<=c->c<=200->-1000<=d->d<=1000 ->aF prog Y 190 [.pt 0 1 0 0,tm O x,iv d] (aw [(0,jU c)] 1) (.v (.bool (bH x d c).1)) (aw [(0,jU (bH x d c).2)] 1)) ?_ x;intro k i n a e d c f g h j l;by_cases m:k=0;exact agU b k i n a e d c f g h j l m;by_cases o:k=1;exact agV b k i n a e d c f g h j l o;by_cases q:k=2;exact agW b k i n a e d c f g h j l q;exact agX b k i n a e d c f g h j l ⟨m,o,q⟩
end
theorem abM(x:Tm):1<=qL x:=by rw[Ma];omega
theorem DH(d:Int):∀(l:List Tm)(h:∀x∈l,∀c,0<=c->(bH x d c).1=(lK x&&decide ((dm x:Int)<=c)&&decide ((qL x:Int)<=d))/\((bH x d c).1=true->(bH x d c).2=c-dm x))(c:Int),0<=c->0<=d ->(dA l d c).1=(kW l&&decide ((bt l:Int)<=c)&&decide ((lJ l:Int)<=d))/\((dA l d c).1=true->(dA l d c).2=c-bt l)|[],h,c,e,f=>by grind[dA,kW,bt,lJ]|x::l,h,c,e,f=>by let⟨a,g⟩:=h x aB c e;rw[dA,kW,bt,lJ];cases b:(bH x d c).1 with
  |false =>
   rw[b]at a;rw[if_neg aB];refine⟨?_,λh=>I⟩;show false=_;cases i:lK x<;>cases p:kW l<;>simp only[i,ay_,br_,bO_,bF_]at a⊢;all_goals try rfl
   symm;replace a:=a.symm;rw[dt_,decide_eq_false_iff_not,decide_eq_false_iff_not]at a⊢;omega|true =>rw[if_pos rfl];have j:=g b;rw[b]at a;have k:lK x=true/\(dm x:Int)<=c/\(qL x:Int)<=d:=I;let⟨m,q⟩:=DH d l (λy r=>h y I) (c-dm x) X f;rw[j];refine⟨?_,λh=>I⟩;rw[m,k.1,ay_];have n:decide ((bt l:Int)<=c-dm x)=decide (((dm x+bt l:Nat):Int)<=c):=decide_eq_decide.2 X;have o:decide ((lJ l:Int)<=d)=decide (((max (qL x) (lJ l):Nat):Int)<=d):=decide_eq_decide.2 X;rw[n,o]
theorem PI(x:Tm):∀(d c:Int),0<=c->(bH x d c).1=(lK x&&decide ((dm x:Int)<=c)&&decide ((qL x:Int)<=d))/\((bH x d c).1=true->(bH x d c).2=c-dm x):=by refine Tm.ind (p:=λx=>∀(d c:Int),0<=c->(bH x d c).1=(lK x&&decide ((dm x:Int)<=c)&&decide ((qL x:Int)<=d))/\((bH x d c).1=true->(bH x d c).2=c-dm x)) ?_ x;intro k i n a e d c b;have g:=uw ⟨k,i,n,a⟩;have h:=abM ⟨k,i,n,a⟩;have j:=DD ⟨k,i,n,a⟩;have l:=Ma ⟨k,i,n,a⟩;by_cases m:c-1<0\/d<1;grind[bH];have o:=DH (d-1) a (λy f c b=>e y f (d-1) c b) (c-1);by_cases q:k=2;grind[qK,bH,lK,bt,lJ,eR,nZ];grind[qK,bt,lJ,bH,lK]
theorem abN(x:Tm):(bH x 20 200).1=cK x:=by grind[PI,cK,dm,qL]
section
attribute [local irreducible] ao aF D H
def an6:=aD func121 call121
def aiZ:List Nat:=[2,0,3,1]
def an7:=aD func120 call120
def PJ:List Nat:=[1,2,0,3]
theorem Nl:∀l:List Tm,bt l<=200->l.all cK=(kW l&&decide ((lJ l:Int)<=20))|[],_=>by rw[kW,lJ];rfl|x::l,h=>by rw[bt]at h;rw[aJ_,Nl l X,kW,lJ,cK];have a:decide (dm x<=200)=true:=decide_eq_true X;have b:decide (((max (qL x) (lJ l):Nat):Int)<=20)=(decide (qL x<=20)&&decide ((lJ l:Int)<=20)):=I;rw[a,b];cases lK x<;>cases kW l<;>cases decide (qL x<=20)<;>simp
theorem Nm(l:List Tm):(dA l 20 200).1=nU l:=by grind[DH,PI,nU,bt,Nl,kW]
theorem abO(d:∀s:ByteArray,ab Y 253 [.v (.string s)] (.v (.bool (eR s))))(x:Tm)(g:x.ok):ab Y 121 [tm O x] (.v (.bool (cK x))):=by
 have c:=Mc (O:=O) d x 20 200 g X X X X;have a:=abN x;let⟨⟨b,i⟩,e⟩:∃p,p=bH x 20 200:=⟨_,rfl⟩;rw[<-e]at c a;simp only at c a;rw[<-a];clear a e d;refine st an6 aiZ .v ?_;repeat' first|refine bg aiZ (D.n0 (m:=[(0,1)]) (to:=[(1,some (jU i))]) c rfl ⟨Rn.pt rfl rfl,Rn.pure (bI _),Rn.pure .v,trivial⟩ (Rb.pure .v) rfl rfl ⟨⟨_,rfl,lU.pure (mB _)⟩,trivial⟩ ⟨⟨0,_,rfl,rfl,m7.pure (mB _)⟩,trivial⟩ rfl (by repeat first|exactλ_ _ h=>I|refine o8 ?_ rfl) (.inr rfl)) (λf=>?_) λf=>?_|refine fq ?_
 all_goals refine aL ?_;rw[f]
theorem abP(g:∀s:ByteArray,ab Y 253 [.v (.string s)] (.v (.bool (eR s))))(x:At)(o:x.ok)(i:x.n.size<=1099511627776):ab Y 120 [at_ O x] (.v (.bool (ft x))):=by
 let⟨n,a⟩:=x;let⟨j,k⟩:=o;dsimp only at j k i;have c:=Co (Y:=Y) (O:=O) (a:=a) 20 (λy q r e t=>⟨(kI y _ _ e).1,(kI y _ _ e).2,Mc (O:=O) g y 20 r (k.mem y q) e t X X⟩) j 200 X X;have d:=Nm a;let⟨⟨b,u⟩,l⟩:∃p,p=dA a 20 200:=⟨_,rfl⟩;rw[<-l]at c d;simp only at c d;have v:decide (a.length<=6)=decide ((a.length:Int)<=6):=decide_eq_decide.2 X;rw[ft,v,<-d];clear d l g;refine st an7 PJ .v ?_;repeat' first|refine bg PJ (pl (Cp _ i)) (λ_=>?_) λ_=>?_|refine bg PJ (D.n0 (m:=[(0,1)]) (to:=[(1,some (jU u))]) c rfl ⟨Rn.pt rfl rfl,Rn.pure (c9 _),Rn.pure .v,trivial⟩ (Rb.pure .v) rfl rfl ⟨⟨_,rfl,lU.pure (mB _)⟩,trivial⟩ ⟨⟨0,_,rfl,rfl,m7.pure (mB _)⟩,trivial⟩ rfl (by repeat first|exactλ_ _ h=>I|refine o8 ?_ rfl) (.inr rfl)) (λf=>?_) λf=>?_|refine cg PJ (λf=>?_) λf=>?_|refine lg PJ λm w=>?_|refine fq ?_
 all_goals clear c;refine aL ?_;subst_vars;simp_all<;>(intros;omega)
def an8:=aD func361 call361
def ai0:List Nat:=[4,0,1]
def an9:=aD func335 call335
def PK:List Nat:=[8,0,1,5,9,10,6,11,12,13,4,16,24,31,36,59,64,73,7,93,107,114,132,139]
def an_:=aD func322 call322
def ai1:List Nat:=[4,0,1]
def aoa:=aD func297 call297
def abQ:List Nat:=[4,0,1]
def aeN:=aD func253 call253
def Jw:List Nat:=[0,2]
def x_:ByteArray:=⟨#[43,45,42,47,37]⟩
theorem ibs(s:ByteArray)(c:Int)(w:World):(callFunc 373 #[.string s,.int .u8 c]).run prog w=.ok (.value (.int .i64 (Lib.indexByte s.data.toList c.toNat.toUInt8))) w:=by rw[run_callFunc_extern func373 (by kernel_rfl) (by kernel_rfl) (by kernel_rfl) (e:=Extern.BytealgIndexByte.indexByte) (by kernel_rfl),Lib.run_indexByteString];rfl
theorem TT(s:ByteArray)(c:Int):ab Y 361 [.v (.string s),.v (.int .u8 c)] (iv (Lib.indexByte s.data.toList c.toNat.toUInt8)):=by
 refine st an8 ai0 .v ?_;repeat' first|refine ig ai0 (D.ext (xs:=[.string s,.int .u8 c]) rfl rfl (ibs s c)) λ_ _=>?_|refine fq ?_
 all_goals subst_vars;exact dx rfl
theorem abR(n:ByteArray)(c:UInt8)(h:n.data.toList=[c]):ab Y 335 [.v (.string x_),.v (.string n)] (iv (Lib.indexByte x_.data.toList c)):=by
 have b:=pY n;rw[h]at b;have d:=toL_eq n;rw[h]at d;have e:idx n.data.toList 0=some c:=Jx h;refine st an9 PK .v ?_;repeat' first|refine ig PK (D.Ws rfl rfl e) λ_ _=>?_|refine ig PK (pl (TT _ _)) λ_ _=>?_|refine cg PK (λa=>?_) λa=>?_|refine lg PK λm f=>?_|refine fq ?_
 all_goals first|exfalso;simp only[aC_,bg_]at b;omega|exfalso;rename_i a;rw[d,toL_eq]at a;simp at a;done|subst_vars;exact dx (by simp[x_])
theorem agY(n:ByteArray)(c:UInt8)(h:n.data.toList=[c]):ab Y 322 [.v (.string x_),.v (.string n)] (iv (Lib.indexByte x_.data.toList c)):=by
 have a:=abR (Y:=Y) n c h;let⟨r,b⟩:=aq (Lib.indexByte x_.data.toList c);rw[<-b]at a⊢;refine st an_ ai1 .v ?_;repeat' first|apply a8 ai1 a|refine fq ?_
 all_goals exact dx rfl
theorem Wt(n:ByteArray)(c:UInt8)(h:n.data.toList=[c]):ab Y 297 [.v (.string x_),.v (.string n)] (.v (.bool (decide (Lib.indexByte x_.data.toList c>=0)))):=by
 have a:=agY (Y:=Y) n c h;let⟨r,b⟩:=aq (Lib.indexByte x_.data.toList c);rw[<-b]at a⊢;refine st aoa abQ .v ?_;repeat' first|apply a8 abQ a|refine cg abQ (λd=>?_) λd=>?_|refine fq ?_
 all_goals refine aL ?_;simp_all
theorem ai2(n:ByteArray)(c:UInt8)(h:n.data.toList=[c]):eR n=decide (Lib.indexByte x_.data.toList c>=0):=by have e:x_.data.toList=[43,45,42,47,37]:=rfl;rw[eR,toL_eq n,h,e];simp only[toL_eq];have b:∀d:UInt8,([c]==[d])=(d==c):=λd=>I;rw[b,b,b,b,b];unfold Lib.indexByte Lib.indexByte Lib.indexByte Lib.indexByte Lib.indexByte Lib.indexByte;cases(43:UInt8)==c<;>cases(45:UInt8)==c<;>cases(42:UInt8)==c<;>cases(47:UInt8)==c<;>cases(37:UInt8)==c<;>rfl
theorem abS(n:ByteArray)(h:n.size≠1):eR n=false:=by rw[pY]at h;rw[eR];simp only[toL_eq];have b:∀d:UInt8,(n.data.toList==[d])=false:=λd=>I;rw[b,b,b,b,b];rfl
theorem KC(n:ByteArray):ab Y 253 [.v (.string n)] (.v (.bool (eR n))):=by
 have b:=pY n;by_cases d:n.size=1
 ·let⟨c,h⟩:∃c,n.data.toList=[c]:=by rw[d]at b;match j:n.data.toList,b with|[c],_=>exact⟨c,rfl⟩|[],h=>simp at h|_::_::_,h=>simp at h
  rw[ai2 n c h];have e:=Wt (Y:=Y) n c h;let⟨r,f⟩:=aq (decide (Lib.indexByte x_.data.toList c>=0));rw[<-f]at e⊢;refine st aeN Jw .v ?_;repeat' first|refine bg Jw (pl e) (λ_=>?_) λ_=>?_|refine cg Jw (λa=>?_) λa=>?_|refine lg Jw λm g=>?_|refine fq ?_
  all_goals first|omega|refine aL ?_;rename_i i;rw[i]
 ·rw[abS n d];refine st aeN Jw .v ?_;repeat' first|refine cg Jw (λa=>?_) λa=>?_|refine lg Jw λm g=>?_|refine fq ?_
  all_goals first|exact aL rfl|omega
def aob:=aD func125 call125
def PM:List Nat:=[1,6,15,18,2,0,7,3,4]
def Us(x:Tm)(a:x.ok):ab Y 121 [tm O x] (.v (.bool (cK x))):=abO KC x a
def H0(x:At)(a:x.ok)(b:x.n.size<=1099511627776):ab Y 120 [at_ O x] (.v (.bool (ft x))):=abP KC x a b
theorem Cq(x:Gl)(t:x.ok)(r:x.n.size<=1099511627776):ab Y 125 [gl O x] (.v (.bool (de x))):=by
 let⟨o,n,a⟩:=x;let⟨g,d⟩:=t;dsimp only at g d r;have i:=H0 (Y:=Y) (O:=O) ⟨n,a⟩ ⟨g,d⟩ r;have e:=Co (Y:=Y) (O:=O) (a:=a) 20 (λy u v j w=>⟨(kI y _ _ j).1,(kI y _ _ j).2,Mc (O:=O) KC y 20 v (d.mem y u) j w X X⟩) g 200 X X;have f:=Nm a;let⟨⟨b,z⟩,s⟩:∃p,p=dA a 20 200:=⟨_,rfl⟩;rw[<-s]at e f;simp only at e f;let⟨A,k⟩:=aq (ft ⟨n,a⟩);rw[<-k]at i;let⟨R,c⟩:=aq (de ⟨o,n,a⟩);rw[<-c];rw[de]at c;simp only at c;rw[<-k,<-f]at c;clear f s k d;refine st aob PM .v ?_;repeat' first|refine bg PM (pl i) (λ_=>?_) λ_=>?_|refine bg PM (D.n0 (m:=[(0,1)]) (to:=[(1,some (jU z))]) e rfl ⟨Rn.pt rfl rfl,Rn.pure (c9 _),Rn.pure .v,trivial⟩ (Rb.pure .v) rfl rfl ⟨⟨_,rfl,lU.pure (mB _)⟩,trivial⟩ ⟨⟨0,_,rfl,rfl,m7.pure (mB _)⟩,trivial⟩ rfl (by repeat first|exactλ_ _ h=>I|refine o8 ?_ rfl) (.inr rfl)) (λl=>?_) λl=>?_|refine cg PM (λl=>?_) λl=>?_|refine lg PM λm B=>?_|refine fq ?_
 all_goals clear i e;refine aL ?_;rw[c];clear c
 all_goals first|rw[if_pos X];simp_all;done|(rw[if_neg X];let⟨C,q⟩:=aq (arity o);rw[<-q];unfold arity at q;(repeat' split at q)<;>first|omega|simp_all<;>(intros;omega))|rw[if_neg X,decide_eq_false (show¬arity o=(a.length:Int) by unfold arity;(repeat' split)<;>omega)];simp;done
end
def mQ(env:List Bd)(v:Int):Option Tm:=(env.find? λb=>b.v==v).map (·.t)
def nr:List Bd->Bd->List Bd|[],b=>[b]|x::l,b=>if b.v<x.v then b::x::l else x::nr l b
mutual def qM:Tm->Tm->List Bd->Option (List Bd)|⟨k,i,n,a⟩,t,e=>if k=2 then if t.k=2/\t.n.toList=n.toList/\a.length=t.a.length then jz a t.a e else none else if k=1 then match mQ e i with|some u=>if eU u t=0 then some e else none|none=>some (nr e ⟨i,t⟩) else if eU ⟨k,i,n,a⟩ t=0 then some e else none def jz:List Tm->List Tm->List Bd->Option (List Bd)|[],_,e=>some e|x::l,m,e=>match m with|[]=>some e|y::m=>match qM x y e with|none=>none|some b=>jz l m b end
def qN:List (Tm×Tm)->List Bd->Option (List Bd)|[],e=>some e|p::l,e=>match qM p.1 p.2 e with|none=>none|some a=>qN l a
theorem FG:∀(a b:List Tm)(e:List Bd),jz a b e=qN (a.zip b) e|[],b,e=>by rw[jz,dy_,qN]|x::a,[],e=>by rw[jz,List.zip_nil_right,qN]|x::a,y::b,e=>by rw[jz,cZ_,qN];cases qM x y e with|none=>rfl|some c=>exact FG a b c
theorem PN:∀(l m:List (Tm×Tm))(e:List Bd),qN (l++m) e=match qN l e with|none=>none|some e'=>qN m e'
 |[],m,e=>rfl|p::l,m,e=>by rw[aP_,qN,qN];cases qM p.1 p.2 e with|none=>rfl|some e'=>exact PN l m e'
def gJ(e:List Bd)(p:Tm×Tm):List Bd×List (Tm×Tm)×Bool :=if p.1.k=1 then match mQ e p.1.i with|some u=>(e,[],eU u p.2==0)|none=>(nr e ⟨p.1.i,p.2⟩,[],true) else if p.1.k=2 then if p.2.k=2/\p.2.n.toList=p.1.n.toList/\p.1.a.length=p.2.a.length then(e,p.1.a.zip p.2.a,true) else([],[],false) else(e,[],eU p.1 p.2==0)
theorem YF(e:List Bd)(p:Tm×Tm):qM p.1 p.2 e=match gJ e p with|(e',l,true)=>qN l e'|(_,_,false)=>none:=by
 let⟨⟨k,i,n,a⟩,t⟩:=p;unfold gJ;simp only;rw[qM];by_cases d:k=1;rw[if_pos d,if_neg X,if_pos d];cases mQ e i with|none=>rfl|some u =>
  simp only;by_cases b:eU u t=0;rw[if_pos b,b];rfl;rw[if_neg b];have:(eU u t==0)=false:=by simpa using b
  rw[this]
 rw[if_neg d,if_neg d];by_cases b:k=2;rw[if_pos b,if_pos b];by_cases c:t.k=2/\t.n.toList=n.toList/\a.length=t.a.length;rw[if_pos c,if_pos c,FG];rw[if_neg c,if_neg c];rw[if_neg b,if_neg b];by_cases c:eU ⟨k,i,n,a⟩ t=0;rw[if_pos c,c];rfl;rw[if_neg c];have:(eU ⟨k,i,n,a⟩ t==0)=false:=by simpa using c
 rw[this]
def o_:List (Tm×Tm)->Nat|[]=>0|p::l=>cP p.1+o_ l
theorem Md:∀l m:List (Tm×Tm),o_ (l++m)=o_ l+o_ m|[],m=>by simp[o_]|p::l,m=>by rw[aP_,o_,o_,Md l m];omega
theorem H2:∀a b:List Tm,o_ (a.zip b)<=bG a|[],b=>by simp[o_]|x::a,[]=>by simp[o_]|x::a,y::b=>by rw[cZ_,o_,bG];have:=H2 a b;simp only;omega
theorem fL(t:Tm):cP t=1+bG t.a:=by let⟨k,i,n,a⟩:=t;rw[cP];simp only;omega
theorem abT(e:List Bd)(p:Tm×Tm):o_ (gJ e p).2.1<cP p.1:=by unfold gJ;rw[fL];split;split<;>(simp only[o_];omega);split;split;have:=H2 p.1.a p.2.a;simp only;omega;simp only[o_];omega;simp only[o_];omega
mutual def ly(env:List Bd)(fr:Int):Tm->Tm|⟨k,i,n,a⟩=>if k=1 then match mQ env i with|some u=>u|none=>⟨1,fr+i,⟨#[]⟩,[]⟩ else if k=0 then⟨0,i,⟨#[]⟩,[]⟩ else if k=2 then⟨2,0,n,n4 env fr a⟩ else⟨k,i,n,a⟩def n4(env:List Bd)(fr:Int):List Tm->List Tm|[]=>[]|x::l=>ly env fr x::n4 env fr l end
theorem pQ(env:List Bd)(fr:Int):∀l,n4 env fr l=l.map (ly env fr)|[]=>by rw[n4];rfl|x::l=>by rw[n4,pQ env fr l];rfl
def gz(env:List Bd)(fr:Int)(g:Gl):Gl:=⟨g.op,g.n,g.a.map (ly env fr)⟩
mutual def td:Tm->Prop|⟨k,i,n,a⟩=>(k=1->0<=i/\i<=1099511627776)/\pb a def pb:List Tm->Prop|[]=>True|x::l=>td x/\pb l end
theorem pb.mem:∀{l:List Tm},pb l->∀x∈l,td x|y::l,h,x,a=>by rw[pb]at h;rcases ae_.1 a with rfl|a;exact h.1;exact h.2.mem x a
mutual def iT(b:List Bd):Tm->Tm|⟨k,i,n,a⟩=>if k=1 then match mQ b i with|some u=>u|none=>⟨k,i,n,a⟩ else if k=2 then⟨k,i,n,u0 b a⟩ else⟨k,i,n,a⟩def u0(b:List Bd):List Tm->List Tm|[]=>[]|x::l=>iT b x::u0 b l end
theorem uz(b:List Bd):∀l,u0 b l=l.map (iT b)|[]=>by rw[u0];rfl|x::l=>by rw[u0,uz b l];rfl
def gD(b:List Bd)(g:Gl):Gl:=⟨g.op,g.n,g.a.map (iT b)⟩
theorem zB{x y:Bd}:∀{l:List Bd},y∈nr l x↔y=x\/y∈l|[]=>by rw[nr];simp|z::l=>by rw[nr];split;simp;rw[ae_,zB,ae_];constructor;rintro(h|h|h);exact .inr (.inl h);exact .inl h;exact .inr (.inr h);rintro(h|h|h);exact .inr (.inl h);exact .inl h;exact .inr (.inr h)
theorem Jy(x:Bd):∀l:List Bd,(nr l x).length=l.length+1|[]=>rfl|y::l=>by rw[nr];split;rfl;rw[aC_,Jy x l,aC_]
theorem Nn{env:List Bd}{v:Int}:(mQ env v).isSome=true↔∃b∈env,b.v=v:=by unfold mQ;rw[Option.isSome_map,List.find?_isSome];simp
def sU(env:List Bd)(v:Int):Prop:=∃b∈env,b.v=v
mutual theorem YG:∀(p t:Tm)(e e':List Bd),eY p->qM p t e=some e'->(∀v,sU e v->sU e' v)/\∀v,pc v p->sU e' v |⟨k,i,n,a⟩,t,e,e',d,h=>by rw[qM]at h;rw[eY]at d;split at h;rename_i f;rw[if_neg X]at d;split at h;rename_i m;let⟨j,o⟩:=DI a t.a e e' d.1 m.2.2 h;exact⟨j,λv c=>o v (by rw[pc,if_neg X]at c;exact c)⟩;cases h;rename_i q;split at h;rename_i f;split at h;rename_i u r;split at h;cases oJ_ h;refine⟨λv c=>c,λv c=>?_⟩;rw[pc,if_pos f]at c;subst c;exact Nn.1 (by rw[r];rfl);cases h;cases oJ_ h;refine⟨λv ⟨b,s,g⟩=>⟨b,zB.2 (.inr s),g⟩,λv c=>?_⟩;rw[pc,if_pos f]at c;exact⟨_,zB.2 (.inl rfl),c⟩;rename_i f;split at h;cases oJ_ h;rw[if_neg f]at d;refine⟨λv c=>c,λv c=>?_⟩;rw[pc,if_neg f,d.2.resolve_left q,jg]at c;exact c.elim;cases h;theorem DI:∀(a b:List Tm)(e e':List Bd),fe a->a.length=b.length->jz a b e=some e'->(∀v,sU e v->sU e' v)/\∀v,jg v a->sU e' v|[],b,e,e',_,_,h=>by rw[jz]at h;cases oJ_ h;exact⟨λv c=>c,λv c=>by rw[jg]at c;exact c.elim⟩|x::a,[],e,e',_,l,h=>by cases l|x::a,y::b,e,e',d,l,h=>by rw[jz]at h;rw[fe]at d;split at h;cases h;rename_i g j;let⟨w,z⟩:=YG x y e g d.1 j;let⟨q1,A⟩:=DI a b g e' d.2 (by simpa using l) h;refine⟨λv c=>q1 v (w v c),λv c=>?_⟩;rw[jg]at c;rcases c with c|c;exact q1 v (z v c);exact A v c;end
end Go.Proofs.YtbdcmpknicjopaaGreat
