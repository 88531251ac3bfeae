import Derived.Lib.Bytealg
import Derived.Test.YtbdcmpknicjopaaGreatTp10
namespace Go.Proofs.YtbdcmpknicjopaaGreat
set_option linter.all false
set_option maxRecDepth 100000
open Go.RowKit Proofs.Tryz
variable{O:Hd}{Y:World}
section
attribute [local irreducible] ao aF D H
def Oa:=aC func190 call190
def mH:List Nat:=[4,0,24,2,6,1,22,25,46,67,77,93]
def am6:=aC func189 call189
def zd:List Nat:=[10,1,6,9,11,0,7,2,20]
mutual def bG:Tm->Int->Int->Bool×Int|⟨k,i,n,a⟩,d,c=>if c-1<0\/d<1 then(false,c-1) else if k=0 then(decide (-2147483648<=i)&&decide (i<=2147483648)&&xE n a,c-1) else if k=1 then(decide (0<=i)&&decide (i<=1048576)&&xE n a,c-1)else if k=2 then if i≠0\/(a.length:Int)>6 then(false,c-1) else if nR n||eP n&&a.length==2 then dA a (d-1) (c-1) else(false,c-1) else(false,c-1)def dA:List Tm->Int->Int->Bool×Int|[],d,c=>(true,c)|x::l,d,c=>if(bG x d c).1 then dA l d (bG x d c).2 else(false,(bG x d c).2)end
theorem iZ{N:Nat}{l:List (Nat×Ob)}(h:l.all (λp=>Nat.blt p.1 N)=true):∀k o,fH l k=some o->k<N:=λk o a=>by have:=aZ_.1 h _ (fT a);exact nb this
theorem oR{N d:Nat}{f:Nat->Option Ob}{a:Option Ob}(h:∀k o,f k=some o->k<N)(b:Nat.blt d N=true):∀k o,bJ f d a k=some o->k<N:=λk o c=>by grind[nb,aN]
def jN(c:Int):Ob:=.arr 1 [[iv c]] 0 true
theorem mo(c:Int):∀row∈[[iv c]],∀a∈row,Pure a:=λrow b a d=>by cases ar_.1 b;cases ar_.1 d;exact .v
theorem oS{B:Nat}(c:Int):kp B (jN c):=Tu (row:=[iv c]) (by intro a b;cases ar_.1 b;exact .v)
theorem BW{a:List Tm}(d:Int)(v:∀x∈a,∀c,0<=c->c<=200->(0<=(bG x d c).2\/(bG x d c).1=false)/\(bG x d c).2<=c/\aF prog Y 190 [.pt 0 1 0 0,tm O x,iv d] (aw [(0,jN c)] 1) (.v (.bool (bG x d c).1)) (aw [(0,jN (bG x d c).2)] 1))(F:a.length<=1099511627776)(c:Int)(w:0<=c)(z:c<=200):aF prog Y 189 [.pt 0 1 0 0,tl O a,iv d] (aw [(0,jN c)] 1) (.v (.bool (dA a d c).1)) (aw [(0,jN (dA a d c).2)] 1):=by
 let⟨R,o⟩:=aq (dA a d c);rw[<-o];refine sc 1 1 am6 ?_;refine I zd ?_;repeat' first|refine lg zd λm G=>?_
 refine cC (τ:=Int) 1 1 [] (λp=>[(0,.pt 0 1 0 0),(1,tl O a),(2,iv d),(9,.v (.int .i64 m)),(10,.v (.int .i64 p.1))]) [] (λp=>[(0,jN p.2)]) a.length (λk p=>0<=p.2/\p.2<=200/\R=dA (a.drop k) d p.2) c ⟨w,z,o⟩ ?_;rintro i k c q K⟨r,s,f⟩;simp only at q r s f;refine I zd ?_;by_cases A:k<a.length
 ·let⟨y,t,B⟩:=aA A;rw[B,dA]at f;let⟨j,u,n⟩:=v y (aZ t) c r s;let⟨⟨b,h⟩,C⟩:∃p,p=bG y d c:=⟨_,rfl⟩;rw[<-C]at j u n f;simp only at j u n f;repeat' first|refine og zd (D.ind rfl rfl (cD (l:=a) q t) cE) ?_|refine bg zd (D.nS (m:=[(0,0)]) (to:=[(0,some (jN h))]) n rfl ⟨Rn.pt rfl rfl,Rn.pure (bH _),Rn.pure .v,trivial⟩ (Rb.pure .v) rfl rfl ⟨⟨_,rfl,lJ.pure (mo _)⟩,trivial⟩ ⟨⟨0,_,rfl,rfl,mP.pure (mo _)⟩,trivial⟩ rfl (iZ rfl) (.inr rfl)) (λg=>?_) λg=>?_|refine cg zd (λg=>?_) λg=>?_|refine ag zd λ_ _=>?_|refine xG zd ?_|refine rG zd ?_|refine fq ?_
  all_goals first
   |(have e:R=(false,h):=by rw[f,g];rfl
     rw[e];exact⟨[],.aJ .v,⟨.inl ⟨_,rfl,.same (oS _)⟩,trivial⟩,rfl⟩)
   |(have e:R=dA (a.drop (k+1)) d h:=by rw[f,if_pos g]
     have E:0<=h:=j.resolve_right (by rw[g];simp);exact bN (_,h) [] (k+1) ⟨E,by simp only;omega,e⟩)|omega
 ·skip;repeat' first|refine cg zd (λg=>?_) λg=>?_|refine xG zd ?_|refine fq ?_
  all_goals first|omega|rw[aq_ Z,dA]at f;rw[f];exact⟨[],.aJ .v,⟨.inl ⟨_,rfl,.same (oS _)⟩,trivial⟩,rfl⟩
theorem JV:∀(l:List Tm)(d:Int)(h:∀x∈l,∀c,0<=c->(0<=(bG x d c).2\/(bG x d c).1=false)/\(bG x d c).2<=c)(c:Int),0<=c->(0<=(dA l d c).2\/(dA l d c).1=false)/\(dA l d c).2<=c|[],d,h,c,a=>by grind[dA]|x::l,d,h,c,a=>by let⟨b,g⟩:=h x aB c a;rw[dA];split;rename_i i;have e:=b.resolve_right X;let⟨f,j⟩:=JV l d (λy k=>h y X) _ e;exact⟨f,Z⟩;grind
theorem ku(x:Tm):∀(d c:Int),0<=c->(0<=(bG x d c).2\/(bG x d c).1=false)/\(bG x d c).2<=c:=by refine Tm.ind (p:=λx=>∀(d c:Int),0<=c->(0<=(bG x d c).2\/(bG x d c).1=false)/\(bG x d c).2<=c) ?_ x;intro k i n a e d c b;rw[bG];have f:=JV a (d-1) (λy g c b=>e y g (d-1) c b) (c-1);(repeat' split)<;>first|exact⟨.inr rfl,X⟩|exact⟨.inl X,X⟩|let⟨h,j⟩:=f Z;exact⟨h,Z⟩
theorem afT(G:∀s:ByteArray,ab Y 253 [.v (.string s)] (.v (.bool (eP s))))(k i:Int)(n:ByteArray)(a:List Tm)(t:∀x∈a,∀(d c:Int),x.ok->0<=c->c<=200->-1000<=d->d<=1000->aF prog Y 190 [.pt 0 1 0 0,tm O x,iv d] (aw [(0,jN c)] 1) (.v (.bool (bG x d c).1)) (aw [(0,jN (bG x d c).2)] 1))(d c:Int)(u:(Tm.mk k i n a).ok)(L:0<=c)(M:c<=200)(N:-1000<=d)(P:d<=1000)(J:k=0):aF prog Y 190 [.pt 0 1 0 0,tm O ⟨k,i,n,a⟩,iv d] (aw [(0,jN c)] 1) (.v (.bool (bG ⟨k,i,n,a⟩ d c).1)) (aw [(0,jN (bG ⟨k,i,n,a⟩ d c).2)] 1):=by
 subst J;let⟨g,v,h⟩:=u.out;dsimp only at g v h;have w:a.isEmpty=decide ((a.length:Int)=0):=by cases a with|nil=>rfl|cons x l=>simp;omega
 have z:(a.length==2)=decide ((a.length:Int)=2):=by rw[bH_];simp;omega
 let⟨R,b⟩:=aq (bG ⟨0,i,n,a⟩ d c);rw[<-b];rw[bG,xE,w,z]at b;have f:∀j,j=d-1->0<=c-1->1<=d->aF prog Y 189 [.pt 0 1 0 0,tl O a,iv j] (aw [(0,jN (c-1))] 1) (.v (.bool (dA a (d-1) (c-1)).1)) (aw [(0,jN (dA a (d-1) (c-1)).2)] 1):=λj K o Q=>by subst K;exact BW (d-1) (λy A S q o=>⟨(ku y _ _ q).1,(ku y _ _ q).2,t y A _ _ (h.mem y A) q o Z Z⟩) g (c-1) o Z
 let⟨⟨T,V⟩,B⟩:∃p,p=dA a (d-1) (c-1):=⟨_,rfl⟩;rw[<-B]at f b;simp only at f;let⟨ce,C⟩:=aq (c-1);rw[<-C]at f b;clear t B;refine sc 1 1 Oa ?_;refine I mH ?_;refine H.int rfl (D.yA (c:=c-1) rfl rfl rfl Z Z) λe E=>?_;rw[<-C]at E;subst E;refine I mH ?_;repeat' first|exact dy F|refine cg mH (λF=>?_) λF=>?_|refine lg mH λm W=>?_|refine fq ?_
 all_goals clear G f u g v h w z
 all_goals first
  |(have r:R=(false,e):=by rw[b];first|rw[if_pos Z]|rw[if_neg Z,if_pos rfl];refine Prod.ext ?_ rfl;simp_all<;>(intros;omega)
    rw[r];exact⟨[],.aJ .v,⟨.inl ⟨_,rfl,.same (oS _)⟩,trivial⟩,rfl⟩)
  |(have r:R=(true,e):=by rw[b,if_neg Z,if_pos rfl];refine Prod.ext ?_ rfl;simp_all<;>(intros;omega)
    rw[r];exact⟨[],.aJ .v,⟨.inl ⟨_,rfl,.same (oS _)⟩,trivial⟩,rfl⟩)
theorem afU(G:∀s:ByteArray,ab Y 253 [.v (.string s)] (.v (.bool (eP s))))(k i:Int)(n:ByteArray)(a:List Tm)(t:∀x∈a,∀(d c:Int),x.ok->0<=c->c<=200->-1000<=d->d<=1000->aF prog Y 190 [.pt 0 1 0 0,tm O x,iv d] (aw [(0,jN c)] 1) (.v (.bool (bG x d c).1)) (aw [(0,jN (bG x d c).2)] 1))(d c:Int)(u:(Tm.mk k i n a).ok)(L:0<=c)(M:c<=200)(N:-1000<=d)(P:d<=1000)(J:k=1):aF prog Y 190 [.pt 0 1 0 0,tm O ⟨k,i,n,a⟩,iv d] (aw [(0,jN c)] 1) (.v (.bool (bG ⟨k,i,n,a⟩ d c).1)) (aw [(0,jN (bG ⟨k,i,n,a⟩ d c).2)] 1):=by
 subst J;let⟨g,v,h⟩:=u.out;dsimp only at g v h;have w:a.isEmpty=decide ((a.length:Int)=0):=by cases a with|nil=>rfl|cons x l=>simp;omega
 have z:(a.length==2)=decide ((a.length:Int)=2):=by rw[bH_];simp;omega
 let⟨R,b⟩:=aq (bG ⟨1,i,n,a⟩ d c);rw[<-b];rw[bG,xE,w,z]at b;have f:∀j,j=d-1->0<=c-1->1<=d->aF prog Y 189 [.pt 0 1 0 0,tl O a,iv j] (aw [(0,jN (c-1))] 1) (.v (.bool (dA a (d-1) (c-1)).1)) (aw [(0,jN (dA a (d-1) (c-1)).2)] 1):=λj K o Q=>by subst K;exact BW (d-1) (λy A S q o=>⟨(ku y _ _ q).1,(ku y _ _ q).2,t y A _ _ (h.mem y A) q o Z Z⟩) g (c-1) o Z
 let⟨⟨T,V⟩,B⟩:∃p,p=dA a (d-1) (c-1):=⟨_,rfl⟩;rw[<-B]at f b;simp only at f;let⟨ce,C⟩:=aq (c-1);rw[<-C]at f b;clear t B;refine sc 1 1 Oa ?_;refine I mH ?_;refine H.int rfl (D.yA (c:=c-1) rfl rfl rfl Z Z) λe E=>?_;rw[<-C]at E;subst E;refine I mH ?_;repeat' first|exact dy F|refine cg mH (λF=>?_) λF=>?_|refine lg mH λm W=>?_|refine fq ?_
 all_goals clear G f u g v h w z
 all_goals first
  |(have r:R=(false,e):=by rw[b];first|rw[if_pos Z]|rw[if_neg Z,if_neg aD,if_pos rfl];refine Prod.ext ?_ rfl;simp_all<;>(intros;omega)
    rw[r];exact⟨[],.aJ .v,⟨.inl ⟨_,rfl,.same (oS _)⟩,trivial⟩,rfl⟩)
  |(have r:R=(true,e):=by rw[b,if_neg Z,if_neg aD,if_pos rfl];refine Prod.ext ?_ rfl;simp_all<;>(intros;omega)
    rw[r];exact⟨[],.aJ .v,⟨.inl ⟨_,rfl,.same (oS _)⟩,trivial⟩,rfl⟩)
theorem afV(w:∀s:ByteArray,ab Y 253 [.v (.string s)] (.v (.bool (eP s))))(k i:Int)(n:ByteArray)(a:List Tm)(z:∀x∈a,∀(d c:Int),x.ok->0<=c->c<=200->-1000<=d->d<=1000->aF prog Y 190 [.pt 0 1 0 0,tm O x,iv d] (aw [(0,jN c)] 1) (.v (.bool (bG x d c).1)) (aw [(0,jN (bG x d c).2)] 1))(d c:Int)(A:(Tm.mk k i n a).ok)(M:0<=c)(N:c<=200)(P:-1000<=d)(Q:d<=1000)(K:k=2):aF prog Y 190 [.pt 0 1 0 0,tm O ⟨k,i,n,a⟩,iv d] (aw [(0,jN c)] 1) (.v (.bool (bG ⟨k,i,n,a⟩ d c).1)) (aw [(0,jN (bG ⟨k,i,n,a⟩ d c).2)] 1):=by
 subst K;let⟨j,o,q⟩:=A.out;dsimp only at j o q;have B:a.isEmpty=decide ((a.length:Int)=0):=by cases a with|nil=>rfl|cons x l=>simp;omega
 have C:(a.length==2)=decide ((a.length:Int)=2):=by rw[bH_];simp;omega
 let⟨R,b⟩:=aq (bG ⟨2,i,n,a⟩ d c);rw[<-b];rw[bG,xE,B,C]at b;have g:∀r,r=d-1->0<=c-1->1<=d->aF prog Y 189 [.pt 0 1 0 0,tl O a,iv r] (aw [(0,jN (c-1))] 1) (.v (.bool (dA a (d-1) (c-1)).1)) (aw [(0,jN (dA a (d-1) (c-1)).2)] 1):=λr L t S=>by subst L;exact BW (d-1) (λy E T u t=>⟨(ku y _ _ u).1,(ku y _ _ u).2,z y E _ _ (q.mem y E) u t Z Z⟩) j (c-1) t Z
 let⟨⟨V,v⟩,F⟩:∃p,p=dA a (d-1) (c-1):=⟨_,rfl⟩;rw[<-F]at g b;simp only at g;let⟨ce,G⟩:=aq (c-1);rw[<-G]at g b;clear z F;refine sc 1 1 Oa ?_;refine I mH ?_;refine H.int rfl (D.yA (c:=c-1) rfl rfl rfl Z Z) λe J=>?_;rw[<-G]at J;subst J;refine I mH ?_;repeat' first|refine bg mH (pl (BV _ o)) (λ_=>?_) λ_=>?_|refine bg mH (pl (w _)) (λ_=>?_) λ_=>?_|refine bg mH (D.nS (m:=[(0,0)]) (to:=[(0,some (jN v))]) (g _ (by assumption) Z Z) rfl ⟨Rn.pt rfl rfl,Rn.pure (cZ _),Rn.pure .v,trivial⟩ (Rb.pure .v) rfl rfl ⟨⟨_,rfl,lJ.pure (mo _)⟩,trivial⟩ ⟨⟨0,_,rfl,rfl,mP.pure (mo _)⟩,trivial⟩ rfl (by repeat first|exact iZ rfl|refine oR ?_ rfl) (.inr rfl)) (λf=>?_) λf=>?_|exact dy f|refine cg mH (λf=>?_) λf=>?_|refine lg mH λm W=>?_|refine ag mH λ_ _=>?_|refine fq ?_
 all_goals clear w g A j o q B C
 all_goals rw[if_neg (by decide:¬(2:Int)=0),if_neg (by decide:¬(2:Int)=1),if_pos rfl]at b
 all_goals first
  |(have h:R=(false,e):=by rw[b];first|rw[if_pos Z]|rw[if_neg Z,if_pos Z]|rw[if_neg Z,if_neg Z,if_neg X]
    rw[h];exact⟨[],.aJ .v,⟨.inl ⟨_,rfl,.same (oS _)⟩,trivial⟩,rfl⟩)
  |(have h:R=(true,v):=by rw[b,if_neg Z,if_neg Z,if_pos X,f]
    rw[h];exact⟨[],.aJ .v,⟨.inl ⟨_,rfl,.same (oS _)⟩,trivial⟩,rfl⟩)
  |(have h:R=(false,v):=by rw[b,if_neg Z,if_neg Z,if_pos (by clear b;simp_all),f]
    rw[h];exact⟨[],.aJ .v,⟨.inl ⟨_,rfl,.same (oS _)⟩,trivial⟩,rfl⟩)
theorem afW(u:∀s:ByteArray,ab Y 253 [.v (.string s)] (.v (.bool (eP s))))(k i:Int)(n:ByteArray)(a:List Tm)(v:∀x∈a,∀(d c:Int),x.ok->0<=c->c<=200->-1000<=d->d<=1000->aF prog Y 190 [.pt 0 1 0 0,tm O x,iv d] (aw [(0,jN c)] 1) (.v (.bool (bG x d c).1)) (aw [(0,jN (bG x d c).2)] 1))(d c:Int)(w:(Tm.mk k i n a).ok)(Q:0<=c)(S:c<=200)(T:-1000<=d)(V:d<=1000)(G:¬k=0/\¬k=1/\¬k=2):aF prog Y 190 [.pt 0 1 0 0,tm O ⟨k,i,n,a⟩,iv d] (aw [(0,jN c)] 1) (.v (.bool (bG ⟨k,i,n,a⟩ d c).1)) (aw [(0,jN (bG ⟨k,i,n,a⟩ d c).2)] 1):=by
 let⟨J,K,L⟩:=G;let⟨g,h,j⟩:=w.out;dsimp only at g h j;have z:a.isEmpty=decide ((a.length:Int)=0):=by cases a with|nil=>rfl|cons x l=>simp;omega
 have A:(a.length==2)=decide ((a.length:Int)=2):=by rw[bH_];simp;omega
 let⟨R,b⟩:=aq (bG ⟨k,i,n,a⟩ d c);rw[<-b];rw[bG,xE,z,A]at b;have f:∀o,o=d-1->0<=c-1->1<=d->aF prog Y 189 [.pt 0 1 0 0,tl O a,iv o] (aw [(0,jN (c-1))] 1) (.v (.bool (dA a (d-1) (c-1)).1)) (aw [(0,jN (dA a (d-1) (c-1)).2)] 1):=λo M q W=>by subst M;exact BW (d-1) (λy B c' r q=>⟨(ku y _ _ r).1,(ku y _ _ r).2,v y B _ _ (j.mem y B) r q Z Z⟩) g (c-1) q Z
 let⟨⟨b1,N⟩,C⟩:∃p,p=dA a (d-1) (c-1):=⟨_,rfl⟩;rw[<-C]at f b;simp only at f;let⟨ce,E⟩:=aq (c-1);rw[<-E]at f b;clear v C;refine sc 1 1 Oa ?_;refine I mH ?_;refine H.int rfl (D.yA (c:=c-1) rfl rfl rfl Z Z) λe F=>?_;rw[<-E]at F;subst F;refine I mH ?_;repeat' first|refine bg mH (pl (BV _ h)) (λ_=>?_) λ_=>?_|refine bg mH (pl (u _)) (λ_=>?_) λ_=>?_|refine bg mH (D.nS (m:=[(0,0)]) (to:=[(0,some (jN N))]) (f _ (by assumption) Z Z) rfl ⟨Rn.pt rfl rfl,Rn.pure (cZ _),Rn.pure .v,trivial⟩ (Rb.pure .v) rfl rfl ⟨⟨_,rfl,lJ.pure (mo _)⟩,trivial⟩ ⟨⟨0,_,rfl,rfl,mP.pure (mo _)⟩,trivial⟩ rfl (by repeat first|exact iZ rfl|refine oR ?_ rfl) (.inr rfl)) (λt=>?_) λt=>?_|refine cg mH (λt=>?_) λt=>?_|refine lg mH λm hm=>?_|refine ag mH λ_ _=>?_|refine fq ?_
 all_goals clear u f w g h j z A
 all_goals first
  |omega
  |(have P:R=(false,e):=by rw[b,if_neg J,if_neg K,if_neg L,ite_self]
    rw[P];exact⟨[],.aJ .v,⟨.inl ⟨_,rfl,.same (oS _)⟩,trivial⟩,rfl⟩)
theorem Lt(b:∀s:ByteArray,ab Y 253 [.v (.string s)] (.v (.bool (eP s))))(x:Tm):∀(d c:Int),x.ok->0<=c->c<=200->-1000<=d->d<=1000 ->aF prog Y 190 [.pt 0 1 0 0,tm O x,iv d] (aw [(0,jN c)] 1) (.v (.bool (bG x d c).1)) (aw [(0,jN (bG x d c).2)] 1):=by refine Tm.ind (p:=λx=>∀(d c:Int),x.ok->0<=c->c<=200->-1000<=d->d<=1000 ->aF prog Y 190 [.pt 0 1 0 0,tm O x,iv d] (aw [(0,jN c)] 1) (.v (.bool (bG x d c).1)) (aw [(0,jN (bG x d c).2)] 1)) ?_ x;intro k i n a e d c f g h j l;by_cases m:k=0;exact afT b k i n a e d c f g h j l m;by_cases o:k=1;exact afU b k i n a e d c f g h j l o;by_cases q:k=2;exact afV b k i n a e d c f g h j l q;exact afW b k i n a e d c f g h j l ⟨m,o,q⟩
end
theorem aaM(x:Tm):1<=qA x:=by rw[Lr];omega
theorem De(d:Int):∀(l:List Tm)(h:∀x∈l,∀c,0<=c->(bG x d c).1=(lA x&&decide ((dm x:Int)<=c)&&decide ((qA x:Int)<=d))/\((bG x d c).1=true->(bG x d c).2=c-dm x))(c:Int),0<=c->0<=d ->(dA l d c).1=(kL l&&decide ((bt l:Int)<=c)&&decide ((lz l:Int)<=d))/\((dA l d c).1=true->(dA l d c).2=c-bt l)|[],h,c,e,f=>by grind[dA,kL,bt,lz]|x::l,h,c,e,f=>by let⟨a,g⟩:=h x aB c e;rw[dA,kL,bt,lz];cases b:(bG x d c).1 with
  |false =>
   rw[b]at a;rw[if_neg aB];refine⟨?_,λh=>X⟩;show false=_;cases i:lA x<;>cases p:kL l<;>simp only[i,az_,bs_,bN_,bG_]at a⊢;all_goals try rfl
   symm;replace a:=a.symm;rw[ds_,decide_eq_false_iff_not,decide_eq_false_iff_not]at a⊢;omega|true =>rw[if_pos rfl];have j:=g b;rw[b]at a;have k:lA x=true/\(dm x:Int)<=c/\(qA x:Int)<=d:=X;let⟨m,q⟩:=De d l (λy r=>h y X) (c-dm x) Z f;rw[j];refine⟨?_,λh=>X⟩;rw[m,k.1,az_];have n:decide ((bt l:Int)<=c-dm x)=decide (((dm x+bt l:Nat):Int)<=c):=decide_eq_decide.2 Z;have o:decide ((lz l:Int)<=d)=decide (((max (qA x) (lz l):Nat):Int)<=d):=decide_eq_decide.2 Z;rw[n,o]
theorem O0(x:Tm):∀(d c:Int),0<=c->(bG x d c).1=(lA x&&decide ((dm x:Int)<=c)&&decide ((qA x:Int)<=d))/\((bG x d c).1=true->(bG x d c).2=c-dm x):=by refine Tm.ind (p:=λx=>∀(d c:Int),0<=c->(bG x d c).1=(lA x&&decide ((dm x:Int)<=c)&&decide ((qA x:Int)<=d))/\((bG x d c).1=true->(bG x d c).2=c-dm x)) ?_ x;intro k i n a e d c b;have g:=tX ⟨k,i,n,a⟩;have h:=aaM ⟨k,i,n,a⟩;have j:=Db ⟨k,i,n,a⟩;have l:=Lr ⟨k,i,n,a⟩;by_cases m:c-1<0\/d<1;grind[bG];have o:=De (d-1) a (λy f c b=>e y f (d-1) c b) (c-1);by_cases q:k=2;grind[qz,bG,lA,bt,lz,eP,nR];grind[qz,bt,lz,bG,lA]
theorem aaN(x:Tm):(bG x 20 200).1=cI x:=by grind[O0,cI,dm,qA]
section
attribute [local irreducible] ao aF D H
def am7:=aC func121 call121
def ah2:List Nat:=[2,0,3,1]
def am8:=aC func120 call120
def O1:List Nat:=[1,2,0,3]
theorem Mz:∀l:List Tm,bt l<=200->l.all cI=(kL l&&decide ((lz l:Int)<=20))|[],_=>by rw[kL,lz];rfl|x::l,h=>by rw[bt]at h;rw[aJ_,Mz l Z,kL,lz,cI];have a:decide (dm x<=200)=true:=decide_eq_true Z;have b:decide (((max (qA x) (lz l):Nat):Int)<=20)=(decide (qA x<=20)&&decide ((lz l:Int)<=20)):=X;rw[a,b];cases lA x<;>cases kL l<;>cases decide (qA x<=20)<;>simp
theorem MA(l:List Tm):(dA l 20 200).1=nK l:=by grind[De,O0,nK,bt,Mz,kL]
theorem aaO(d:∀s:ByteArray,ab Y 253 [.v (.string s)] (.v (.bool (eP s))))(x:Tm)(g:x.ok):ab Y 121 [tm O x] (.v (.bool (cI x))):=by
 have c:=Lt (O:=O) d x 20 200 g Z Z Z Z;have a:=aaN x;let⟨⟨b,i⟩,e⟩:∃p,p=bG x 20 200:=⟨_,rfl⟩;rw[<-e]at c a;simp only at c a;rw[<-a];clear a e d;refine st am7 ah2 .v ?_;repeat' first|refine bg ah2 (D.nS (m:=[(0,1)]) (to:=[(1,some (jN i))]) c rfl ⟨Rn.pt rfl rfl,Rn.pure (bH _),Rn.pure .v,trivial⟩ (Rb.pure .v) rfl rfl ⟨⟨_,rfl,lJ.pure (mo _)⟩,trivial⟩ ⟨⟨0,_,rfl,rfl,mP.pure (mo _)⟩,trivial⟩ rfl (by repeat first|exactλ_ _ h=>X|refine oR ?_ rfl) (.inr rfl)) (λf=>?_) λf=>?_|refine fq ?_
 all_goals refine aK ?_;rw[f]
theorem aaP(g:∀s:ByteArray,ab Y 253 [.v (.string s)] (.v (.bool (eP s))))(x:At)(o:x.ok)(i:x.n.size<=1099511627776):ab Y 120 [at_ O x] (.v (.bool (fp x))):=by
 let⟨n,a⟩:=x;let⟨j,k⟩:=o;dsimp only at j k i;have c:=BW (Y:=Y) (O:=O) (a:=a) 20 (λy q r e t=>⟨(ku y _ _ e).1,(ku y _ _ e).2,Lt (O:=O) g y 20 r (k.mem y q) e t Z Z⟩) j 200 Z Z;have d:=MA a;let⟨⟨b,u⟩,l⟩:∃p,p=dA a 20 200:=⟨_,rfl⟩;rw[<-l]at c d;simp only at c d;have v:decide (a.length<=6)=decide ((a.length:Int)<=6):=decide_eq_decide.2 Z;rw[fp,v,<-d];clear d l g;refine st am8 O1 .v ?_;repeat' first|refine bg O1 (pl (BV _ i)) (λ_=>?_) λ_=>?_|refine bg O1 (D.nS (m:=[(0,1)]) (to:=[(1,some (jN u))]) c rfl ⟨Rn.pt rfl rfl,Rn.pure (cZ _),Rn.pure .v,trivial⟩ (Rb.pure .v) rfl rfl ⟨⟨_,rfl,lJ.pure (mo _)⟩,trivial⟩ ⟨⟨0,_,rfl,rfl,mP.pure (mo _)⟩,trivial⟩ rfl (by repeat first|exactλ_ _ h=>X|refine oR ?_ rfl) (.inr rfl)) (λf=>?_) λf=>?_|refine cg O1 (λf=>?_) λf=>?_|refine lg O1 λm w=>?_|refine fq ?_
 all_goals clear c;refine aK ?_;subst_vars;simp_all<;>(intros;omega)
def am9:=aC func361 call361
def ah3:List Nat:=[4,0,1]
def am_:=aC func335 call335
def O2:List Nat:=[8,0,1,5,9,10,6,11,12,13,4,16,24,31,36,59,64,73,7,93,107,114,132,139]
def ana:=aC func322 call322
def ah4:List Nat:=[4,0,1]
def anb:=aC func297 call297
def aaQ:List Nat:=[4,0,1]
def adL:=aC func253 call253
def IW:List Nat:=[0,2]
def xF:ByteArray:=⟨#[43,45,42,47,37]⟩
theorem ibs(s:ByteArray)(c:Int)(w:World):(callFunc 373 #[.string s,.int .u8 c]).run prog w=.ok (.value (.int .i64 (Lib.indexByte s.data.toList c.toNat.toUInt8))) w:=by rw[run_callFunc_extern func373 (by kernel_rfl) (by kernel_rfl) (by kernel_rfl) (e:=Extern.BytealgIndexByte.indexByte) (by kernel_rfl),Lib.run_indexByteString];rfl
theorem SR(s:ByteArray)(c:Int):ab Y 361 [.v (.string s),.v (.int .u8 c)] (iv (Lib.indexByte s.data.toList c.toNat.toUInt8)):=by
 refine st am9 ah3 .v ?_;repeat' first|refine ig ah3 (D.ext (xs:=[.string s,.int .u8 c]) rfl rfl (ibs s c)) λ_ _=>?_|refine fq ?_
 all_goals subst_vars;exact dx rfl
theorem aaR(n:ByteArray)(c:UInt8)(h:n.data.toList=[c]):ab Y 335 [.v (.string xF),.v (.string n)] (iv (Lib.indexByte xF.data.toList c)):=by
 have b:=pK n;rw[h]at b;have d:=toL_eq n;rw[h]at d;have e:idx n.data.toList 0=some c:=IU h;refine st am_ O2 .v ?_;repeat' first|refine ig O2 (D.Vv rfl rfl e) λ_ _=>?_|refine ig O2 (pl (SR _ _)) λ_ _=>?_|refine cg O2 (λa=>?_) λa=>?_|refine lg O2 λm f=>?_|refine fq ?_
 all_goals first|exfalso;simp only[aC_,bi_]at b;omega|exfalso;rename_i a;rw[d,toL_eq]at a;simp at a;done|subst_vars;exact dx (by simp[xF])
theorem afX(n:ByteArray)(c:UInt8)(h:n.data.toList=[c]):ab Y 322 [.v (.string xF),.v (.string n)] (iv (Lib.indexByte xF.data.toList c)):=by
 have a:=aaR (Y:=Y) n c h;let⟨r,b⟩:=aq (Lib.indexByte xF.data.toList c);rw[<-b]at a⊢;refine st ana ah4 .v ?_;repeat' first|apply bk ah4 a|refine fq ?_
 all_goals exact dx rfl
theorem Vx(n:ByteArray)(c:UInt8)(h:n.data.toList=[c]):ab Y 297 [.v (.string xF),.v (.string n)] (.v (.bool (decide (Lib.indexByte xF.data.toList c>=0)))):=by
 have a:=afX (Y:=Y) n c h;let⟨r,b⟩:=aq (Lib.indexByte xF.data.toList c);rw[<-b]at a⊢;refine st anb aaQ .v ?_;repeat' first|apply bk aaQ a|refine cg aaQ (λd=>?_) λd=>?_|refine fq ?_
 all_goals refine aK ?_;simp_all
theorem ah5(n:ByteArray)(c:UInt8)(h:n.data.toList=[c]):eP n=decide (Lib.indexByte xF.data.toList c>=0):=by have e:xF.data.toList=[43,45,42,47,37]:=rfl;rw[eP,toL_eq n,h,e];simp only[toL_eq];have b:∀d:UInt8,([c]==[d])=(d==c):=λd=>X;rw[b,b,b,b,b];unfold Lib.indexByte Lib.indexByte Lib.indexByte Lib.indexByte Lib.indexByte Lib.indexByte;cases(43:UInt8)==c<;>cases(45:UInt8)==c<;>cases(42:UInt8)==c<;>cases(47:UInt8)==c<;>cases(37:UInt8)==c<;>rfl
theorem aaS(n:ByteArray)(h:n.size≠1):eP n=false:=by rw[pK]at h;rw[eP];simp only[toL_eq];have b:∀d:UInt8,(n.data.toList==[d])=false:=λd=>X;rw[b,b,b,b,b];rfl
theorem JW(n:ByteArray):ab Y 253 [.v (.string n)] (.v (.bool (eP n))):=by
 have b:=pK n;by_cases d:n.size=1
 ·let⟨c,h⟩:∃c,n.data.toList=[c]:=by rw[d]at b;match j:n.data.toList,b with|[c],_=>exact⟨c,rfl⟩|[],h=>simp at h|_::_::_,h=>simp at h
  rw[ah5 n c h];have e:=Vx (Y:=Y) n c h;let⟨r,f⟩:=aq (decide (Lib.indexByte xF.data.toList c>=0));rw[<-f]at e⊢;refine st adL IW .v ?_;repeat' first|refine bg IW (pl e) (λ_=>?_) λ_=>?_|refine cg IW (λa=>?_) λa=>?_|refine lg IW λm g=>?_|refine fq ?_
  all_goals first|omega|refine aK ?_;rename_i i;rw[i]
 ·rw[aaS n d];refine st adL IW .v ?_;repeat' first|refine cg IW (λa=>?_) λa=>?_|refine lg IW λm g=>?_|refine fq ?_
  all_goals first|exact aK rfl|omega
def anc:=aC func125 call125
def O3:List Nat:=[1,6,15,18,2,0,7,3,4]
def Tw(x:Tm)(a:x.ok):ab Y 121 [tm O x] (.v (.bool (cI x))):=aaO JW x a
def Hq(x:At)(a:x.ok)(b:x.n.size<=1099511627776):ab Y 120 [at_ O x] (.v (.bool (fp x))):=aaP JW x a b
theorem BX(x:Gl)(t:x.ok)(r:x.n.size<=1099511627776):ab Y 125 [gl O x] (.v (.bool (de x))):=by
 let⟨o,n,a⟩:=x;let⟨g,d⟩:=t;dsimp only at g d r;have i:=Hq (Y:=Y) (O:=O) ⟨n,a⟩ ⟨g,d⟩ r;have e:=BW (Y:=Y) (O:=O) (a:=a) 20 (λy u v j w=>⟨(ku y _ _ j).1,(ku y _ _ j).2,Lt (O:=O) JW y 20 v (d.mem y u) j w Z Z⟩) g 200 Z Z;have f:=MA a;let⟨⟨b,z⟩,s⟩:∃p,p=dA a 20 200:=⟨_,rfl⟩;rw[<-s]at e f;simp only at e f;let⟨A,k⟩:=aq (fp ⟨n,a⟩);rw[<-k]at i;let⟨R,c⟩:=aq (de ⟨o,n,a⟩);rw[<-c];rw[de]at c;simp only at c;rw[<-k,<-f]at c;clear f s k d;refine st anc O3 .v ?_;repeat' first|refine bg O3 (pl i) (λ_=>?_) λ_=>?_|refine bg O3 (D.nS (m:=[(0,1)]) (to:=[(1,some (jN z))]) e rfl ⟨Rn.pt rfl rfl,Rn.pure (cZ _),Rn.pure .v,trivial⟩ (Rb.pure .v) rfl rfl ⟨⟨_,rfl,lJ.pure (mo _)⟩,trivial⟩ ⟨⟨0,_,rfl,rfl,mP.pure (mo _)⟩,trivial⟩ rfl (by repeat first|exactλ_ _ h=>X|refine oR ?_ rfl) (.inr rfl)) (λl=>?_) λl=>?_|refine cg O3 (λl=>?_) λl=>?_|refine lg O3 λm B=>?_|refine fq ?_
 all_goals clear i e;refine aK ?_;rw[c];clear c
 all_goals first|rw[if_pos Z];simp_all;done|(rw[if_neg Z];let⟨C,q⟩:=aq (arity o);rw[<-q];unfold arity at q;(repeat' split at q)<;>first|omega|simp_all<;>(intros;omega))|rw[if_neg Z,decide_eq_false (show¬arity o=(a.length:Int) by unfold arity;(repeat' split)<;>omega)];simp;done
def ane:=aC func251 call251
def ze:List Nat:=[5,0,4,9,1,17]
def anf:=aC func217 call217
def ah6:List Nat:=[0,1,4,5,9]
def ass:=aC func56 call56
def Aq:List Nat:=[5,0,1,4,10,14,25]
theorem ah7(l:List Int)(v:Int)(h:l.length<=1099511627776):ab Y 251 [aY O aV false l,iv v] (.v (.bool (l.contains v))):=by
 refine st ane ze .v ?_;refine bD 0 0 [] (λi=>[(0,aY O aV false l),(1,.v (.int .i64 v)),(5,.v (.int .i64 i))]) [] (λ_=>[]) l.length (λk=>l.contains v=(l.drop k).contains v) aB λi k c j a=>?_;refine I ze ?_;by_cases d:k<l.length
 ·let⟨x,e,f⟩:=aA d;rw[f,cX_]at a;repeat' first|refine og ze (D.bh c e) ?_|refine cg ze (λb=>?_) λb=>?_|refine lg ze λm g=>?_|refine ag ze λ_ _=>?_|refine xG ze ?_|refine rG ze ?_|refine fq ?_
  all_goals first|refine H.bK _ [] ?_ ?_ cq;grind;omega|refine aK ?_;rw[a];simp;left;omega|omega
 ·skip;repeat' first|refine cg ze (λb=>?_) λb=>?_|refine lg ze λm g=>?_|refine xG ze ?_|refine fq ?_
  all_goals first|omega|rw[a,aq_ Z];exact aK rfl
theorem Tx(a b:Int):ab Y 217 [iv a,iv b] (iv (jz a b)):=by
 refine st anf ah6 .v ?_;repeat' first|refine cg ah6 (λc=>?_) λc=>?_|refine fq ?_
 all_goals refine aI.of_eq ?_;simp only[jz,iv];(repeat' split)<;>first|rfl|omega
theorem aaT(a b:List Int)(o:a.length<=1099511627776):ab Y 56 [aY O aV false a,aY O aV false b] (.v (.bool (decide (a=b)))):=by
 refine st ass Aq .v ?_;repeat' first|refine cg Aq (λc=>?_) λc=>?_|refine lg Aq λm e=>?_|refine fq ?_
 refine aK ?_;have:a≠b:=X;simp[this];have p:a.length=b.length:=Z;refine bD 0 0 [] (λi=>[(0,aY O aV false a),(1,aY O aV false b),(5,.v (.int .i64 i))]) [] (λ_=>[]) a.length (λk=>decide (a=b)=decide (a.drop k=b.drop k)) aB λi k f q d=>?_;refine I Aq ?_;by_cases g:k<a.length
 ·let⟨x,h,j⟩:=aA g;let⟨y,l,n⟩:=aA (show k<b.length by omega);rw[j,n]at d;repeat' first|refine og Aq (D.bh f h) ?_|refine og Aq (D.bh f l) ?_|refine cg Aq (λc=>?_) λc=>?_|refine lg Aq λm e=>?_|refine ag Aq λ_ _=>?_|refine xG Aq ?_|refine rG Aq ?_|refine fq ?_
  all_goals first|rw[d];exact aI.of_eq X|refine H.bK _ [] ?_ ?_ cq;grind;omega
 ·skip;repeat' first|refine cg Aq (λc=>?_) λc=>?_|refine lg Aq λm e=>?_|refine xG Aq ?_|refine fq ?_
  all_goals first|omega|rw[d,aq_ Z,aq_ Z];exact aI.of_eq rfl
end
end Go.Proofs.YtbdcmpknicjopaaGreat
