import Derived.Lib.Bytealg
import Derived.Test.YtbdcmpknicjopaaGreatTo10
namespace Go.Proofs.YtbdcmpknicjopaaGreat
set_option linter.all false
set_option maxRecDepth 100000
open Go.RowKit Proofs.Tryz
variable{E:List (Tm×Tm)}{N:aW}{O:Hd}{U:World}{c h:Nat->Nat}{kn:KN}{ls sh vs:List (Int×Int)}{s:JS}{zzD:List (Nat×Nat)}
section
attribute [local irreducible] aq aG D I
def O4:=aD func190 call190
def mL:=[4,0,24,2,6,1,22,25,46,67,77,93]
def aoI:=aD func189 call189
def zR:=[10,1,6,9,11,0,7,2,20]
mutual def bO:Tm->Int->Int->Bool×Int|⟨k,i,n,a⟩,d,c=>if c-1<0\/d<1 then(false,c-1) else if k=0 then(decide (-2147483648<=i)&&decide (i<=2147483648)&&yq n a,c-1) else if k=1 then(decide (0<=i)&&decide (i<=1048576)&&yq n a,c-1)else if k=2 then if i≠0\/(a.length:Int)>6 then(false,c-1) else if nX n||eZ n&&a.length==2 then dK a (d-1) (c-1) else(false,c-1) else(false,c-1)def dK:List Tm->Int->Int->Bool×Int|[],d,c=>(true,c)|x::l,d,c=>if(bO x d c).1 then dK l d (bO x d c).2 else(false,(bO x d c).2)end
theorem jn{N:Nat}{l:List (Nat×Ob)}(h:l.all (λp=>Nat.blt p.1 N)=true):∀k o,fN l k=some o->k<N:=λk o a=>by have:=bb_.1 h _ (gy a);exact nn this
theorem o_{N d:Nat}{f:Nat->Option Ob}{a:Option Ob}(h:∀k o,f k=some o->k<N)(b:Nat.blt d N=true):∀k o,bK f d a k=some o->k<N:=λk o c=>by grind[nn,aR]
def jY(c:Int):Ob:=.arr 1 [[iv c]] 0 true
theorem mw(c:Int):∀row∈[[iv c]],∀a∈row,Pure a:=λrow b a d=>by cases ae_.1 b;cases ae_.1 d;exact .v
theorem pb{B:Nat}(c:Int):jm B (jY c):=se (row:=[iv c]) (by intro a b;cases ae_.1 b;exact .v)
theorem CB{a:List Tm}(d:Int)(v:∀x∈a,∀c,0<=c->c<=200->(0<=(bO x d c).2\/(bO x d c).1=false)/\(bO x d c).2<=c/\aG prog U 190 [.pt 0 1 0 0,tm O x,iv d] (aw [(0,jY c)] 1) (.v (.bool (bO x d c).1)) (aw [(0,jY (bO x d c).2)] 1))(F:a.length<=1099511627776)(c:Int)(w:0<=c)(z:c<=200):aG prog U 189 [.pt 0 1 0 0,tl O a,iv d] (aw [(0,jY c)] 1) (.v (.bool (dK a d c).1)) (aw [(0,jY (dK a d c).2)] 1):=by
 let⟨R,o⟩:=au (dK a d c);rw[<-o];refine sc 1 1 aoI ?_;refine H zR ?_;repeat' first|refine lg zR λm G=>?_
 refine cW (τ:=Int) 1 1 [] (λp=>[(0,.pt 0 1 0 0),(1,tl O a),(2,iv d),(9,.v (.int .i64 m)),(10,.v (.int .i64 p.1))]) [] (λp=>[(0,jY p.2)]) a.length (λk p=>0<=p.2/\p.2<=200/\R=dK (a.drop k) d p.2) c ⟨w,z,o⟩ ?_;rintro i k c q K⟨r,s,f⟩;simp only at q r s f;refine H zR ?_;by_cases A:k<a.length
 ·let⟨y,t,B⟩:=aC A;rw[B,dK]at f;let⟨j,u,n⟩:=v y (aZ t) c r s;let⟨⟨b,h⟩,C⟩:∃p,p=bO y d c:=⟨_,rfl⟩;rw[<-C]at j u n f;simp only at j u n f;repeat' first|refine og zR (D.ind rfl rfl (cG (l:=a) q t) cH) ?_|refine bg zR (D.nZ (m:=[(0,0)]) (to:=[(0,some (jY h))]) n rfl ⟨Rn.pt rfl rfl,Rn.pure (bM _),Rn.pure .v,trivial⟩ (Rb.pure .v) rfl rfl ⟨⟨_,rfl,lO.pure (mw _)⟩,trivial⟩ ⟨⟨0,_,rfl,rfl,mW.pure (mw _)⟩,trivial⟩ rfl (jn rfl) (.inr rfl)) (λg=>?_) λg=>?_|refine cg zR (λg=>?_) λg=>?_|refine ag zR λ_ _=>?_|refine xG zR ?_|refine rG zR ?_|refine fq ?_
  all_goals first
   |(have e:R=(false,h):=by rw[f,g];rfl
     rw[e];exact⟨[],.aF .v,⟨.inl ⟨_,rfl,.same (pb _)⟩,trivial⟩,rfl⟩)
   |(have e:R=dK (a.drop (k+1)) d h:=by rw[f,if_pos g]
     have E:0<=h:=j.resolve_right (by rw[g];simp);exact cO (_,h) [] (k+1) ⟨E,by simp only;omega,e⟩)|omega
 ·skip;repeat' first|refine cg zR (λg=>?_) λg=>?_|refine xG zR ?_|refine fq ?_
  all_goals first|omega|rw[ar_ X,dK]at f;rw[f];exact⟨[],.aF .v,⟨.inl ⟨_,rfl,.same (pb _)⟩,trivial⟩,rfl⟩
theorem KQ:∀(l:List Tm)(d:Int)(h:∀x∈l,∀c,0<=c->(0<=(bO x d c).2\/(bO x d c).1=false)/\(bO x d c).2<=c)(c:Int),0<=c->(0<=(dK l d c).2\/(dK l d c).1=false)/\(dK l d c).2<=c|[],d,h,c,a=>by grind[dK]|x::l,d,h,c,a=>by let⟨b,g⟩:=h x aE c a;rw[dK];split;rename_i i;have e:=b.resolve_right Z;let⟨f,j⟩:=KQ l d (λy k=>h y Z) _ e;exact⟨f,X⟩;grind
theorem kK(x:Tm):∀(d c:Int),0<=c->(0<=(bO x d c).2\/(bO x d c).1=false)/\(bO x d c).2<=c:=by refine Tm.ind (p:=λx=>∀(d c:Int),0<=c->(0<=(bO x d c).2\/(bO x d c).1=false)/\(bO x d c).2<=c) ?_ x;intro k i n a e d c b;rw[bO];have f:=KQ a (d-1) (λy g c b=>e y g (d-1) c b) (c-1);(repeat' split)<;>first|exact⟨.inr rfl,Z⟩|exact⟨.inl Z,Z⟩|let⟨h,j⟩:=f X;exact⟨h,X⟩
theorem ahm(G:∀s:ByteArray,ad U 253 [.v (.string s)] (.v (.bool (eZ s))))(k i:Int)(n:ByteArray)(a:List Tm)(t:∀x∈a,∀(d c:Int),x.ok->0<=c->c<=200->-1000<=d->d<=1000->aG prog U 190 [.pt 0 1 0 0,tm O x,iv d] (aw [(0,jY c)] 1) (.v (.bool (bO x d c).1)) (aw [(0,jY (bO x d c).2)] 1))(d c:Int)(u:(Tm.mk k i n a).ok)(L:0<=c)(M:c<=200)(N:-1000<=d)(P:d<=1000)(J:k=0):aG prog U 190 [.pt 0 1 0 0,tm O ⟨k,i,n,a⟩,iv d] (aw [(0,jY c)] 1) (.v (.bool (bO ⟨k,i,n,a⟩ d c).1)) (aw [(0,jY (bO ⟨k,i,n,a⟩ d c).2)] 1):=by
 subst J;let⟨g,v,h⟩:=u.out;dsimp only at g v h;have w:a.isEmpty=decide ((a.length:Int)=0):=by cases a with|nil=>rfl|cons x l=>simp;omega
 have z:(a.length==2)=decide ((a.length:Int)=2):=by rw[bG_];simp;omega
 let⟨R,b⟩:=au (bO ⟨0,i,n,a⟩ d c);rw[<-b];rw[bO,yq,w,z]at b;have f:∀j,j=d-1->0<=c-1->1<=d->aG prog U 189 [.pt 0 1 0 0,tl O a,iv j] (aw [(0,jY (c-1))] 1) (.v (.bool (dK a (d-1) (c-1)).1)) (aw [(0,jY (dK a (d-1) (c-1)).2)] 1):=λj K o Q=>by subst K;exact CB (d-1) (λy A S q o=>⟨(kK y _ _ q).1,(kK y _ _ q).2,t y A _ _ (h.mem y A) q o X X⟩) g (c-1) o X
 let⟨⟨T,V⟩,B⟩:∃p,p=dK a (d-1) (c-1):=⟨_,rfl⟩;rw[<-B]at f b;simp only at f;let⟨ce,C⟩:=au (c-1);rw[<-C]at f b;clear t B;refine sc 1 1 O4 ?_;refine H mL ?_;refine I.int rfl (D.y7 (c:=c-1) rfl rfl rfl X X) λe E=>?_;rw[<-C]at E;subst E;refine H mL ?_;repeat' first|exact dV F|refine cg mL (λF=>?_) λF=>?_|refine lg mL λm W=>?_|refine fq ?_
 all_goals clear G f u g v h w z
 all_goals first
  |(have r:R=(false,e):=by rw[b];first|rw[if_pos X]|rw[if_neg X,if_pos rfl];refine Prod.ext ?_ rfl;simp_all<;>(intros;omega)
    rw[r];exact⟨[],.aF .v,⟨.inl ⟨_,rfl,.same (pb _)⟩,trivial⟩,rfl⟩)
  |(have r:R=(true,e):=by rw[b,if_neg X,if_pos rfl];refine Prod.ext ?_ rfl;simp_all<;>(intros;omega)
    rw[r];exact⟨[],.aF .v,⟨.inl ⟨_,rfl,.same (pb _)⟩,trivial⟩,rfl⟩)
theorem ahn(G:∀s:ByteArray,ad U 253 [.v (.string s)] (.v (.bool (eZ s))))(k i:Int)(n:ByteArray)(a:List Tm)(t:∀x∈a,∀(d c:Int),x.ok->0<=c->c<=200->-1000<=d->d<=1000->aG prog U 190 [.pt 0 1 0 0,tm O x,iv d] (aw [(0,jY c)] 1) (.v (.bool (bO x d c).1)) (aw [(0,jY (bO x d c).2)] 1))(d c:Int)(u:(Tm.mk k i n a).ok)(L:0<=c)(M:c<=200)(N:-1000<=d)(P:d<=1000)(J:k=1):aG prog U 190 [.pt 0 1 0 0,tm O ⟨k,i,n,a⟩,iv d] (aw [(0,jY c)] 1) (.v (.bool (bO ⟨k,i,n,a⟩ d c).1)) (aw [(0,jY (bO ⟨k,i,n,a⟩ d c).2)] 1):=by
 subst J;let⟨g,v,h⟩:=u.out;dsimp only at g v h;have w:a.isEmpty=decide ((a.length:Int)=0):=by cases a with|nil=>rfl|cons x l=>simp;omega
 have z:(a.length==2)=decide ((a.length:Int)=2):=by rw[bG_];simp;omega
 let⟨R,b⟩:=au (bO ⟨1,i,n,a⟩ d c);rw[<-b];rw[bO,yq,w,z]at b;have f:∀j,j=d-1->0<=c-1->1<=d->aG prog U 189 [.pt 0 1 0 0,tl O a,iv j] (aw [(0,jY (c-1))] 1) (.v (.bool (dK a (d-1) (c-1)).1)) (aw [(0,jY (dK a (d-1) (c-1)).2)] 1):=λj K o Q=>by subst K;exact CB (d-1) (λy A S q o=>⟨(kK y _ _ q).1,(kK y _ _ q).2,t y A _ _ (h.mem y A) q o X X⟩) g (c-1) o X
 let⟨⟨T,V⟩,B⟩:∃p,p=dK a (d-1) (c-1):=⟨_,rfl⟩;rw[<-B]at f b;simp only at f;let⟨ce,C⟩:=au (c-1);rw[<-C]at f b;clear t B;refine sc 1 1 O4 ?_;refine H mL ?_;refine I.int rfl (D.y7 (c:=c-1) rfl rfl rfl X X) λe E=>?_;rw[<-C]at E;subst E;refine H mL ?_;repeat' first|exact dV F|refine cg mL (λF=>?_) λF=>?_|refine lg mL λm W=>?_|refine fq ?_
 all_goals clear G f u g v h w z
 all_goals first
  |(have r:R=(false,e):=by rw[b];first|rw[if_pos X]|rw[if_neg X,if_neg aJ,if_pos rfl];refine Prod.ext ?_ rfl;simp_all<;>(intros;omega)
    rw[r];exact⟨[],.aF .v,⟨.inl ⟨_,rfl,.same (pb _)⟩,trivial⟩,rfl⟩)
  |(have r:R=(true,e):=by rw[b,if_neg X,if_neg aJ,if_pos rfl];refine Prod.ext ?_ rfl;simp_all<;>(intros;omega)
    rw[r];exact⟨[],.aF .v,⟨.inl ⟨_,rfl,.same (pb _)⟩,trivial⟩,rfl⟩)
theorem aho(w:∀s:ByteArray,ad U 253 [.v (.string s)] (.v (.bool (eZ s))))(k i:Int)(n:ByteArray)(a:List Tm)(z:∀x∈a,∀(d c:Int),x.ok->0<=c->c<=200->-1000<=d->d<=1000->aG prog U 190 [.pt 0 1 0 0,tm O x,iv d] (aw [(0,jY c)] 1) (.v (.bool (bO x d c).1)) (aw [(0,jY (bO x d c).2)] 1))(d c:Int)(A:(Tm.mk k i n a).ok)(M:0<=c)(N:c<=200)(P:-1000<=d)(Q:d<=1000)(K:k=2):aG prog U 190 [.pt 0 1 0 0,tm O ⟨k,i,n,a⟩,iv d] (aw [(0,jY c)] 1) (.v (.bool (bO ⟨k,i,n,a⟩ d c).1)) (aw [(0,jY (bO ⟨k,i,n,a⟩ d c).2)] 1):=by
 subst K;let⟨j,o,q⟩:=A.out;dsimp only at j o q;have B:a.isEmpty=decide ((a.length:Int)=0):=by cases a with|nil=>rfl|cons x l=>simp;omega
 have C:(a.length==2)=decide ((a.length:Int)=2):=by rw[bG_];simp;omega
 let⟨R,b⟩:=au (bO ⟨2,i,n,a⟩ d c);rw[<-b];rw[bO,yq,B,C]at b;have g:∀r,r=d-1->0<=c-1->1<=d->aG prog U 189 [.pt 0 1 0 0,tl O a,iv r] (aw [(0,jY (c-1))] 1) (.v (.bool (dK a (d-1) (c-1)).1)) (aw [(0,jY (dK a (d-1) (c-1)).2)] 1):=λr L t S=>by subst L;exact CB (d-1) (λy E T u t=>⟨(kK y _ _ u).1,(kK y _ _ u).2,z y E _ _ (q.mem y E) u t X X⟩) j (c-1) t X
 let⟨⟨V,v⟩,F⟩:∃p,p=dK a (d-1) (c-1):=⟨_,rfl⟩;rw[<-F]at g b;simp only at g;let⟨ce,G⟩:=au (c-1);rw[<-G]at g b;clear z F;refine sc 1 1 O4 ?_;refine H mL ?_;refine I.int rfl (D.y7 (c:=c-1) rfl rfl rfl X X) λe J=>?_;rw[<-G]at J;subst J;refine H mL ?_;repeat' first|refine bg mL (pl (Cz _ o)) (λ_=>?_) λ_=>?_|refine bg mL (pl (w _)) (λ_=>?_) λ_=>?_|refine bg mL (D.nZ (m:=[(0,0)]) (to:=[(0,some (jY v))]) (g _ (by assumption) X X) rfl ⟨Rn.pt rfl rfl,Rn.pure (cQ _),Rn.pure .v,trivial⟩ (Rb.pure .v) rfl rfl ⟨⟨_,rfl,lO.pure (mw _)⟩,trivial⟩ ⟨⟨0,_,rfl,rfl,mW.pure (mw _)⟩,trivial⟩ rfl (by repeat first|exact jn rfl|refine o_ ?_ rfl) (.inr rfl)) (λf=>?_) λf=>?_|exact dV f|refine cg mL (λf=>?_) λf=>?_|refine lg mL λm W=>?_|refine ag mL λ_ _=>?_|refine fq ?_
 all_goals clear w g A j o q B C
 all_goals rw[if_neg (by decide:¬(2:Int)=0),if_neg (by decide:¬(2:Int)=1),if_pos rfl]at b
 all_goals first
  |(have h:R=(false,e):=by rw[b];first|rw[if_pos X]|rw[if_neg X,if_pos X]|rw[if_neg X,if_neg X,if_neg Z]
    rw[h];exact⟨[],.aF .v,⟨.inl ⟨_,rfl,.same (pb _)⟩,trivial⟩,rfl⟩)
  |(have h:R=(true,v):=by rw[b,if_neg X,if_neg X,if_pos Z,f]
    rw[h];exact⟨[],.aF .v,⟨.inl ⟨_,rfl,.same (pb _)⟩,trivial⟩,rfl⟩)
  |(have h:R=(false,v):=by rw[b,if_neg X,if_neg X,if_pos (by clear b;simp_all),f]
    rw[h];exact⟨[],.aF .v,⟨.inl ⟨_,rfl,.same (pb _)⟩,trivial⟩,rfl⟩)
theorem ahp(u:∀s:ByteArray,ad U 253 [.v (.string s)] (.v (.bool (eZ s))))(k i:Int)(n:ByteArray)(a:List Tm)(v:∀x∈a,∀(d c:Int),x.ok->0<=c->c<=200->-1000<=d->d<=1000->aG prog U 190 [.pt 0 1 0 0,tm O x,iv d] (aw [(0,jY c)] 1) (.v (.bool (bO x d c).1)) (aw [(0,jY (bO x d c).2)] 1))(d c:Int)(w:(Tm.mk k i n a).ok)(Q:0<=c)(S:c<=200)(T:-1000<=d)(V:d<=1000)(G:¬k=0/\¬k=1/\¬k=2):aG prog U 190 [.pt 0 1 0 0,tm O ⟨k,i,n,a⟩,iv d] (aw [(0,jY c)] 1) (.v (.bool (bO ⟨k,i,n,a⟩ d c).1)) (aw [(0,jY (bO ⟨k,i,n,a⟩ d c).2)] 1):=by
 let⟨J,K,L⟩:=G;let⟨g,h,j⟩:=w.out;dsimp only at g h j;have z:a.isEmpty=decide ((a.length:Int)=0):=by cases a with|nil=>rfl|cons x l=>simp;omega
 have A:(a.length==2)=decide ((a.length:Int)=2):=by rw[bG_];simp;omega
 let⟨R,b⟩:=au (bO ⟨k,i,n,a⟩ d c);rw[<-b];rw[bO,yq,z,A]at b;have f:∀o,o=d-1->0<=c-1->1<=d->aG prog U 189 [.pt 0 1 0 0,tl O a,iv o] (aw [(0,jY (c-1))] 1) (.v (.bool (dK a (d-1) (c-1)).1)) (aw [(0,jY (dK a (d-1) (c-1)).2)] 1):=λo M q W=>by subst M;exact CB (d-1) (λy B c' r q=>⟨(kK y _ _ r).1,(kK y _ _ r).2,v y B _ _ (j.mem y B) r q X X⟩) g (c-1) q X
 let⟨⟨b1,N⟩,C⟩:∃p,p=dK a (d-1) (c-1):=⟨_,rfl⟩;rw[<-C]at f b;simp only at f;let⟨ce,E⟩:=au (c-1);rw[<-E]at f b;clear v C;refine sc 1 1 O4 ?_;refine H mL ?_;refine I.int rfl (D.y7 (c:=c-1) rfl rfl rfl X X) λe F=>?_;rw[<-E]at F;subst F;refine H mL ?_;repeat' first|refine bg mL (pl (Cz _ h)) (λ_=>?_) λ_=>?_|refine bg mL (pl (u _)) (λ_=>?_) λ_=>?_|refine bg mL (D.nZ (m:=[(0,0)]) (to:=[(0,some (jY N))]) (f _ (by assumption) X X) rfl ⟨Rn.pt rfl rfl,Rn.pure (cQ _),Rn.pure .v,trivial⟩ (Rb.pure .v) rfl rfl ⟨⟨_,rfl,lO.pure (mw _)⟩,trivial⟩ ⟨⟨0,_,rfl,rfl,mW.pure (mw _)⟩,trivial⟩ rfl (by repeat first|exact jn rfl|refine o_ ?_ rfl) (.inr rfl)) (λt=>?_) λt=>?_|refine cg mL (λt=>?_) λt=>?_|refine lg mL λm hm=>?_|refine ag mL λ_ _=>?_|refine fq ?_
 all_goals clear u f w g h j z A
 all_goals first
  |omega
  |(have P:R=(false,e):=by rw[b,if_neg J,if_neg K,if_neg L,ite_self]
    rw[P];exact⟨[],.aF .v,⟨.inl ⟨_,rfl,.same (pb _)⟩,trivial⟩,rfl⟩)
theorem Mt(b:∀s:ByteArray,ad U 253 [.v (.string s)] (.v (.bool (eZ s))))(x:Tm):∀(d c:Int),x.ok->0<=c->c<=200->-1000<=d->d<=1000 ->aG prog U 190 [.pt 0 1 0 0,tm O x,iv d] (aw [(0,jY c)] 1) (.v (.bool (bO x d c).1)) (aw [(0,jY (bO x d c).2)] 1):=by refine Tm.ind (p:=λx=>∀(d c:Int),x.ok->0<=c->c<=200->-1000<=d->d<=1000 ->aG prog U 190 [.pt 0 1 0 0,tm O x,iv d] (aw [(0,jY c)] 1) (.v (.bool (bO x d c).1)) (aw [(0,jY (bO x d c).2)] 1)) ?_ x;intro k i n a e d c f g h j l;by_cases m:k=0;exact ahm b k i n a e d c f g h j l m;by_cases o:k=1;exact ahn b k i n a e d c f g h j l o;by_cases q:k=2;exact aho b k i n a e d c f g h j l q;exact ahp b k i n a e d c f g h j l ⟨m,o,q⟩
end
theorem abZ(x:Tm):1<=qI x:=by rw[Mq];omega
theorem DK(d:Int):∀(l:List Tm)(h:∀x∈l,∀c,0<=c->(bO x d c).1=(lH x&&decide ((dD x:Int)<=c)&&decide ((qI x:Int)<=d))/\((bO x d c).1=true->(bO x d c).2=c-dD x))(c:Int),0<=c->0<=d ->(dK l d c).1=(kX l&&decide ((bF l:Int)<=c)&&decide ((lG l:Int)<=d))/\((dK l d c).1=true->(dK l d c).2=c-bF l)|[],h,c,e,f=>by grind[dK,kX,bF,lG]|x::l,h,c,e,f=>by let⟨a,g⟩:=h x aE c e;rw[dK,kX,bF,lG];cases b:(bO x d c).1 with
  |false =>
   rw[b]at a;rw[if_neg aE];refine⟨?_,λh=>Z⟩;show false=_;cases i:lH x<;>cases p:kX l<;>simp only[i,az_,bm_,bx_,bC_]at a⊢;all_goals try rfl
   symm;replace a:=a.symm;rw[du_,decide_eq_false_iff_not,decide_eq_false_iff_not]at a⊢;omega|true =>rw[if_pos rfl];have j:=g b;rw[b]at a;have k:lH x=true/\(dD x:Int)<=c/\(qI x:Int)<=d:=Z;let⟨m,q⟩:=DK d l (λy r=>h y Z) (c-dD x) X f;rw[j];refine⟨?_,λh=>Z⟩;rw[m,k.1,az_];have n:decide ((bF l:Int)<=c-dD x)=decide (((dD x+bF l:Nat):Int)<=c):=decide_eq_decide.2 X;have o:decide ((lG l:Int)<=d)=decide (((max (qI x) (lG l):Nat):Int)<=d):=decide_eq_decide.2 X;rw[n,o]
theorem P1(x:Tm):∀(d c:Int),0<=c->(bO x d c).1=(lH x&&decide ((dD x:Int)<=c)&&decide ((qI x:Int)<=d))/\((bO x d c).1=true->(bO x d c).2=c-dD x):=by refine Tm.ind (p:=λx=>∀(d c:Int),0<=c->(bO x d c).1=(lH x&&decide ((dD x:Int)<=c)&&decide ((qI x:Int)<=d))/\((bO x d c).1=true->(bO x d c).2=c-dD x)) ?_ x;intro k i n a e d c b;have g:=uB ⟨k,i,n,a⟩;have h:=abZ ⟨k,i,n,a⟩;have j:=DI ⟨k,i,n,a⟩;have l:=Mq ⟨k,i,n,a⟩;by_cases m:c-1<0\/d<1;grind[bO];have o:=DK (d-1) a (λy f c b=>e y f (d-1) c b) (c-1);by_cases q:k=2;grind[qH,bO,lH,bF,lG,eZ,nX];grind[qH,bF,lG,bO,lH]
theorem ab0(x:Tm):(bO x 20 200).1=cB x:=by grind[P1,cB,dD,qI]
section
attribute [local irreducible] aq aG D I
def aoJ:=aD func121 call121
def aju:=[2,0,3,1]
def aoK:=aD func120 call120
def P2:=[1,2,0,3]
theorem NF:∀l:List Tm,bF l<=200->l.all cB=(kX l&&decide ((lG l:Int)<=20))|[],_=>by rw[kX,lG];rfl|x::l,h=>by rw[bF]at h;rw[aL_,NF l X,kX,lG,cB];have a:decide (dD x<=200)=true:=decide_eq_true X;have b:decide (((max (qI x) (lG l):Nat):Int)<=20)=(decide (qI x<=20)&&decide ((lG l:Int)<=20)):=Z;rw[a,b];cases lH x<;>cases kX l<;>cases decide (qI x<=20)<;>simp
theorem NG(l:List Tm):(dK l 20 200).1=nS l:=by grind[DK,P1,nS,bF,NF,kX]
theorem ab1(d:∀s:ByteArray,ad U 253 [.v (.string s)] (.v (.bool (eZ s))))(x:Tm)(g:x.ok):ad U 121 [tm O x] (.v (.bool (cB x))):=by
 have c:=Mt (O:=O) d x 20 200 g X X X X;have a:=ab0 x;let⟨⟨b,i⟩,e⟩:∃p,p=bO x 20 200:=⟨_,rfl⟩;rw[<-e]at c a;simp only at c a;rw[<-a];clear a e d;refine st aoJ aju .v ?_;repeat' first|refine bg aju (D.nZ (m:=[(0,1)]) (to:=[(1,some (jY i))]) c rfl ⟨Rn.pt rfl rfl,Rn.pure (bM _),Rn.pure .v,trivial⟩ (Rb.pure .v) rfl rfl ⟨⟨_,rfl,lO.pure (mw _)⟩,trivial⟩ ⟨⟨0,_,rfl,rfl,mW.pure (mw _)⟩,trivial⟩ rfl (by repeat first|exactλ_ _ h=>Z|refine o_ ?_ rfl) (.inr rfl)) (λf=>?_) λf=>?_|refine fq ?_
 all_goals refine aO ?_;rw[f]
theorem ab2(g:∀s:ByteArray,ad U 253 [.v (.string s)] (.v (.bool (eZ s))))(x:At)(o:x.ok)(i:x.n.size<=1099511627776):ad U 120 [at_ O x] (.v (.bool (fw x))):=by
 let⟨n,a⟩:=x;let⟨j,k⟩:=o;dsimp only at j k i;have c:=CB (U:=U) (O:=O) (a:=a) 20 (λy q r e t=>⟨(kK y _ _ e).1,(kK y _ _ e).2,Mt (O:=O) g y 20 r (k.mem y q) e t X X⟩) j 200 X X;have d:=NG a;let⟨⟨b,u⟩,l⟩:∃p,p=dK a 20 200:=⟨_,rfl⟩;rw[<-l]at c d;simp only at c d;have v:decide (a.length<=6)=decide ((a.length:Int)<=6):=decide_eq_decide.2 X;rw[fw,v,<-d];clear d l g;refine st aoK P2 .v ?_;repeat' first|refine bg P2 (pl (Cz _ i)) (λ_=>?_) λ_=>?_|refine bg P2 (D.nZ (m:=[(0,1)]) (to:=[(1,some (jY u))]) c rfl ⟨Rn.pt rfl rfl,Rn.pure (cQ _),Rn.pure .v,trivial⟩ (Rb.pure .v) rfl rfl ⟨⟨_,rfl,lO.pure (mw _)⟩,trivial⟩ ⟨⟨0,_,rfl,rfl,mW.pure (mw _)⟩,trivial⟩ rfl (by repeat first|exactλ_ _ h=>Z|refine o_ ?_ rfl) (.inr rfl)) (λf=>?_) λf=>?_|refine cg P2 (λf=>?_) λf=>?_|refine lg P2 λm w=>?_|refine fq ?_
 all_goals clear c;refine aO ?_;subst_vars;simp_all<;>(intros;omega)
def aoL:=aD func361 call361
def ajv:=[4,0,1]
def aoM:=aD func335 call335
def P3:=[8,0,1,5,9,10,6,11,12,13,4,16,24,31,36,59,64,73,7,93,107,114,132,139]
def aoN:=aD func322 call322
def ajw:=[4,0,1]
def aoO:=aD func297 call297
def ab3:=[4,0,1]
def afa:=aD func253 call253
def JQ:=[0,2]
def yu:ByteArray:=⟨#[43,45,42,47,37]⟩
theorem ibs(s:ByteArray)(c:Int)(w:World):(callFunc 373 #[.string s,.int .u8 c]).run prog w=.ok (.value (.int .i64 (Lib.indexByte s.data.toList c.toNat.toUInt8))) w:=by rw[run_callFunc_extern func373 (by kernel_rfl) (by kernel_rfl) (by kernel_rfl) (e:=Extern.BytealgIndexByte.indexByte) (by kernel_rfl),Lib.run_indexByteString];rfl
theorem T5(s:ByteArray)(c:Int):ad U 361 [.v (.string s),.v (.int .u8 c)] (iv (Lib.indexByte s.data.toList c.toNat.toUInt8)):=by
 refine st aoL ajv .v ?_;repeat' first|refine ig ajv (D.ext (xs:=[.string s,.int .u8 c]) rfl rfl (ibs s c)) λ_ _=>?_|refine fq ?_
 all_goals subst_vars;exact dA rfl
theorem ab4(n:ByteArray)(c:UInt8)(h:n.data.toList=[c]):ad U 335 [.v (.string yu),.v (.string n)] (iv (Lib.indexByte yu.data.toList c)):=by
 have b:=pX n;rw[h]at b;have d:=toL_eq n;rw[h]at d;have e:idx n.data.toList 0=some c:=JN h;refine st aoM P3 .v ?_;repeat' first|refine ig P3 (D.Wx rfl rfl e) λ_ _=>?_|refine ig P3 (pl (T5 _ _)) λ_ _=>?_|refine cg P3 (λa=>?_) λa=>?_|refine lg P3 λm f=>?_|refine fq ?_
 all_goals first|exfalso;simp only[aH_,bd_]at b;omega|exfalso;rename_i a;rw[d,toL_eq]at a;simp at a;done|subst_vars;exact dA (by simp[yu])
theorem ahq(n:ByteArray)(c:UInt8)(h:n.data.toList=[c]):ad U 322 [.v (.string yu),.v (.string n)] (iv (Lib.indexByte yu.data.toList c)):=by
 have a:=ab4 (U:=U) n c h;let⟨r,b⟩:=au (Lib.indexByte yu.data.toList c);rw[<-b]at a⊢;refine st aoN ajw .v ?_;repeat' first|apply bh ajw a|refine fq ?_
 all_goals exact dA rfl
theorem Wy(n:ByteArray)(c:UInt8)(h:n.data.toList=[c]):ad U 297 [.v (.string yu),.v (.string n)] (.v (.bool (decide (Lib.indexByte yu.data.toList c>=0)))):=by
 have a:=ahq (U:=U) n c h;let⟨r,b⟩:=au (Lib.indexByte yu.data.toList c);rw[<-b]at a⊢;refine st aoO ab3 .v ?_;repeat' first|apply bh ab3 a|refine cg ab3 (λd=>?_) λd=>?_|refine fq ?_
 all_goals refine aO ?_;simp_all
theorem ajx(n:ByteArray)(c:UInt8)(h:n.data.toList=[c]):eZ n=decide (Lib.indexByte yu.data.toList c>=0):=by have e:yu.data.toList=[43,45,42,47,37]:=rfl;rw[eZ,toL_eq n,h,e];simp only[toL_eq];have b:∀d:UInt8,([c]==[d])=(d==c):=λd=>Z;rw[b,b,b,b,b];unfold Lib.indexByte Lib.indexByte Lib.indexByte Lib.indexByte Lib.indexByte Lib.indexByte;cases(43:UInt8)==c<;>cases(45:UInt8)==c<;>cases(42:UInt8)==c<;>cases(47:UInt8)==c<;>cases(37:UInt8)==c<;>rfl
theorem ab5(n:ByteArray)(h:n.size≠1):eZ n=false:=by rw[pX]at h;rw[eZ];simp only[toL_eq];have b:∀d:UInt8,(n.data.toList==[d])=false:=λd=>Z;rw[b,b,b,b,b];rfl
theorem KR(n:ByteArray):ad U 253 [.v (.string n)] (.v (.bool (eZ n))):=by
 have b:=pX n;by_cases d:n.size=1
 ·let⟨c,h⟩:∃c,n.data.toList=[c]:=by rw[d]at b;match j:n.data.toList,b with|[c],_=>exact⟨c,rfl⟩|[],h=>simp at h|_::_::_,h=>simp at h
  rw[ajx n c h];have e:=Wy (U:=U) n c h;let⟨r,f⟩:=au (decide (Lib.indexByte yu.data.toList c>=0));rw[<-f]at e⊢;refine st afa JQ .v ?_;repeat' first|refine bg JQ (pl e) (λ_=>?_) λ_=>?_|refine cg JQ (λa=>?_) λa=>?_|refine lg JQ λm g=>?_|refine fq ?_
  all_goals first|omega|refine aO ?_;rename_i i;rw[i]
 ·rw[ab5 n d];refine st afa JQ .v ?_;repeat' first|refine cg JQ (λa=>?_) λa=>?_|refine lg JQ λm g=>?_|refine fq ?_
  all_goals first|exact aO rfl|omega
end
mutual def kL:Tm->Prop|⟨k,i,n,a⟩=>a.length<=6/\n.size<=1099511627776/\lq a def lq:List Tm->Prop|[]=>True|x::l=>kL x/\lq l end
theorem lq.mem:∀{l:List Tm},lq l->∀x∈l,kL x|y::l,h,x,a=>by rw[lq]at h;rcases al_.1 a with rfl|a;grind;exact h.2.mem x a
theorem kL.out{t:Tm}(h:kL t):t.a.length<=6/\t.n.size<=1099511627776/\lq t.a:=by let⟨k,i,n,a⟩:=t;rw[kL]at h;exact h
def sO(N:aW):Prop:=∀i,i<N.length->kL (tn N i)
theorem sO.push(h:sO N){t:Tm}{l:List Nat}(b:kL t):sO (N++[(t,l)]):=by intro i a;by_cases e:i<N.length;have c:∀i,i<N.length->(N++[(t,l)])[i]?=N[i]?:=λi a=>bj_ a;rw[(fY c e).1];exact h i e;have:i=N.length:=Z;subst this;rw[nb.1];exact b
mutual theorem zq:∀(N:aW)(t:Tm),sO N->kL t->sO (cu N t).1/\(cu N t).1.length<=N.length+cL t |N,⟨k,i,n,a⟩,h,b=>by have c:=b;rw[kL]at b;rw[cu,cL];split;grind;let⟨d,e⟩:=DL N a h b.2.2;exact⟨d.push c,Z⟩;theorem DL:∀(N:aW)(l:List Tm),sO N->lq l->sO (cy N l).1/\(cy N l).1.length<=N.length+bC l|N,[],h,_=>by grind[cy,bC]|N,x::l,h,b=>by rw[lq]at b;let⟨d,e⟩:=zq N x h b.1;let⟨f,g⟩:=DL _ l d b.2;rw[cy,bC];exact⟨f,Z⟩;end
def CC(N:aW):Prop:=∀(i:Nat)(t:Tm)(l:List Nat),N[i]?=some (t,l)->l.length<=6/\t.a.length<=6/\t.n.size<=1099511627776
theorem CC.of(g:gm N)(h:sO N):CC N:=by intro i t l a;have b:=(aC_.1 a).1;have d:=nY g b;have c:=(h i b).out;rw[zp b]at a;simp only[oI_,pI_]at a;obtain⟨rfl,rfl⟩:=a;exact⟨X,c.1,c.2.1⟩
def zS:List (Tm×Tm)->Nat|[]=>0|e::l=>cL e.1+cL e.2+zS l
inductive u7:List (Tm×Tm)->PS->Bool->PS->Prop|nil {s:PS}:u7 [] s true s|no {a b:Tm}{l:List (Tm×Tm)}{s:PS}{m:Nat}{j:JS}(h:jS (cC (cC s a).1 b).1.N m [((cC s a).2,(cC (cC s a).1 b).2)] (cC (cC s a).1 b).1.js=some (false,j)) :u7 ((a,b)::l) s false ⟨(cC (cC s a).1 b).1.N,(cC (cC s a).1 b).1.vs,j⟩|go {a b:Tm}{l:List (Tm×Tm)}{s s':PS}{m:Nat}{j:JS}{r:Bool}(h:jS (cC (cC s a).1 b).1.N m [((cC s a).2,(cC (cC s a).1 b).2)] (cC (cC s a).1 b).1.js=some (true,j))(k:u7 l ⟨(cC (cC s a).1 b).1.N,(cC (cC s a).1 b).1.vs,j⟩ r s'):u7 ((a,b)::l) s r s'
theorem YL{E:List (Tm×Tm)}:∀(l:List (Tm×Tm))(done:List (Tm×Tm))(s:PS)(zzD:List (Nat×Nat))(c:Nat->Nat),(∀e∈l,e∈E/\(e_ e.1/\kL e.1)/\e_ e.2/\kL e.2)->sO s.N->s.N.length+zS l<=100000000000->rp E s.N zzD c [] s.js->sW s->(∀p∈zzD,p.1<s.N.length/\p.2<s.N.length) ->(∀e∈done,∃p∈zzD,p.1<s.N.length/\p.2<s.N.length/\tn s.N p.1=e.1/\tn s.N p.2=e.2) ->∃b d,u7 l s b d/\(b=false->¬∃f,yP E f)/\(b=true->∃w c',rp E d.N w c' [] d.js/\sW d/\sO d.N/\d.N.length<=100000000000/\∀e∈done++l,∃p∈w,p.1<d.N.length/\p.2<d.N.length/\tn d.N p.1=e.1/\tn d.N p.2=e.2)
 |[],done,s,zzD,c,_,F,W,z,G,J,hd=>⟨true,s,.nil,λh=>Z,λ_=>⟨zzD,c,z,G,F,Z,Z⟩⟩|(a,b)::l,done,s,zzD,c,K,F,W,z,G,J,hd=>by
  let⟨e1,⟨w1,o1⟩,w2,o2⟩:=K (a,b) aE;rw[zS]at W;let⟨z1,z2⟩:=zq s.N a F o1;let⟨q,L⟩:=zq _ b z1 o2;let⟨M,p2,p3,p4⟩:=uD s a G w1;let⟨N,A,P⟩:=sj s.N a z.gi.g w1;let⟨q1,q2,Q,q4⟩:=uD (cC s a).1 b p3 w2;rw[<-M,<-p2]at A P;rw[<-M]at N;let⟨t,u,B⟩:=sj (cC s a).1.N b N.g w2;rw[<-q1,<-q2]at u B;rw[<-q1]at t;rw[<-M]at z2 q L;rw[<-q1]at q L;let⟨g,sL⟩:=au (cC (cC s a).1 b).1;let⟨x,hx⟩:=au (cC s a).2;let⟨y,hy⟩:=au (cC (cC s a).1 b).2;have key:∀{r:Bool}{d:PS},(∃m j,jS g.N m [(x,y)] g.js=some (false,j)/\r=false/\d=⟨g.N,g.vs,j⟩)\/(∃m j,jS g.N m [(x,y)] g.js=some (true,j)/\u7 l ⟨g.N,g.vs,j⟩ r d)->u7 ((a,b)::l) s r d:=by intro r d h;subst sL hx hy;rcases h with⟨m,j,k,rfl,rfl⟩|⟨m,j,k,n⟩;exact .no k;exact .go k n
  rw[<-sL]at Q q4 t u B q L;rw[<-hx]at A P;rw[<-hy]at u B;have tx:tn g.N x=a:=by rw[t.tn A,P]
  have nC:x<g.N.length:=aG_ A t.le;have o:yw s.N g.N:=N.trans t;have hG:Grown s g:=p4.trans q4;have R:=z.grow J o hG nC u Z;have hK:∀i,i<g.N.length->(ks g.N i).length<=6:=λi hi=>by rw[nY o.g hi];exact(q i hi).out.1
  let⟨f,r,j,j1,j2,j3⟩:=ahr hK _ _ rfl rfl (by grind[KS]) R;cases r with|false=>exact⟨false,_,key (.inl ⟨f,j,j1,rfl,rfl⟩),λ_=>j3 rfl,λh=>Z⟩|true =>let⟨c',v⟩:=j2 rfl;let⟨r,d,k1,k2,k3⟩:=YL l (done++[(a,b)]) ⟨g.N,g.vs,j⟩ ((x,y)::zzD) c' (λe h=>K e Z) q Z v ⟨Q.vs,v.len,Q.nd⟩ (λp S=>by rcases al_.1 S with rfl|S;grind;let⟨k,n⟩:=J p S;have:=o.le;exact⟨aG_ k this,aG_ n this⟩) (λe h=>by rcases aO_.1 h with h|h;let⟨p,k,n,C,T,V⟩:=hd e h;have:=o.le;exact⟨p,Z,aG_ n this,aG_ C this,by rw[o.tn n];exact T,by rw[o.tn C];exact V⟩;cases ae_.1 h;exact⟨(x,y),aE,nC,u,tx,B⟩);exact⟨r,d,key (.inr ⟨f,j,j1,k1⟩),k2,λe=>by let⟨w,c',k,n,T,V,C⟩:=k3 e;exact⟨w,c',k,n,T,V,λe K=>C e Z⟩⟩
theorem FR:gm []:=⟨λi a=>Z,λi a=>Z,λi a=>Z,λi j a=>Z⟩
theorem rp.start:rp E [] [] id [] ⟨[],[],[]⟩ :=⟨⟨FR,λi j a=>Z,λp b=>Z,λp b=>Z,λi j a=>Z⟩,⟨λ_=>0,λi a=>Z,λi a=>Z,λi a=>Z,λi a=>Z,λi a=>Z⟩,rfl,λC i h=>(by cases h),λC c=>Z,λC c=>Z,λC _=>rfl,λC _=>rfl⟩
theorem rp.ajy(h:rp E N zzD c [] s):Ms N c s.sh:=⟨h.pos,λC d e k f=>by have a:=h.CD C d e;rw[f]at a;exact a,λi b j g=>cI_ (h.gi.g.lt i b j g) b⟩
theorem ahs{sh:List (Int×Int)}(hC:u_ E N c)(u:Ms N c sh)(g:∀i,i<N.length->(tn N i).k≠1->∃t,dx sh (c i)=some t)(l:∀i,i<N.length->c (c i)=c i/\c i<N.length)(o:∀i,i<N.length->∃m,iK N c (dx sh) m (c i)):∃r,vc N c r/\∀i,i<N.length->iK N c (dx sh) (r (c i)) (c i):=by
 have a:∀C,∃m,(∃m,iK N c (dx sh) m C)->iK N c (dx sh) m C/\∀k,k<m->¬iK N c (dx sh) k C:=λC=>by by_cases h:∃m,iK N c (dx sh) m C;let⟨n,g⟩:=h;let⟨m,d,f⟩:=PU (p:=λm=>iK N c (dx sh) m C) n g;exact⟨m,λ_=>⟨d,f⟩⟩;exact⟨0,λv=>absurd v h⟩
 refine⟨λC=>(a C).choose,λi b q j A=>?_,λi b=>((a (c i)).choose_spec (o i b)).1⟩;let⟨t,s⟩:=g i b q;let⟨t1,t2,t3⟩:=u.at_ (c i) (l i b).2 (l i b).1 t s;have d:=((a (c i)).choose_spec (o i b)).1;let⟨_,B⟩:=hC.al i t b t1 t2.symm q t3;have w:c j∈(ks N t).map c:=Z;let⟨x,y,e⟩:=aE_.1 w;show(a (c j)).choose<(a (c i)).choose;generalize(a (c i)).choose=m at d;cases m with|zero=>exact d.elim|succ m =>have f:=d t s x y;rw[e]at f;have z:=((a (c j)).choose_spec ⟨m,f⟩).2;exact Nat.lt_succ_of_le (dl_ λh=>z m h f)
theorem ajz{zzD:List (Nat×Nat)}{c:Nat->Nat}{s:JS}(h:rp E N zzD c [] s)(a:∃f,yP E f):∃b,RkC N c s.sh b:=by let⟨r,d⟩:=NH h.gi.g h.gi.sound a;refine⟨r,λC g e t i j k=>?_⟩;let⟨t1,t2,t3⟩:=h.ajy.at_ C g e t i;have:=d t t1 t3 j k;rwa[t2]at this
theorem Mu{N:aW}{c:Nat->Nat}{sh:Nat->Option Nat}:∀(n:Nat),(∀i,i<n->∃m,iK N c sh m (c i))->∃m,∀i,i<n->iK N c sh m (c i)|0,_=>⟨0,λi b=>X⟩|n+1,h=>by let⟨m,d⟩:=Mu n λi b=>h i X;let⟨f,a⟩:=h n X;refine⟨max m f,λi b=>?_⟩;by_cases e:i<n;exact(d i e).le (cm_ _ _);have:i=n:=X;subst this;exact a.le (cl_ _ _)
theorem P4{σ:Int->Tm}{M:Nat}{p:Int->Bool}(g:gm N)(a:Ms N c sh)(b:∀v,p v=true↔σ v≠vr v)(d:∀v k,aN vs v=some k->0<=k/\k.toNat<N.length/\iK N c (dx sh) M (c k.toNat)/\σ v=TF N c (dx sh) (Ba ls) M (c k.toNat)/\aN kn (c k.toNat:Int)=some (qJ (σ v))):∀(l:List Int)(up:List Nat)(MP:List Bd),(∀v∈l,∃k,aN vs v=some k)->UF up c h->up.length=N.length ->zQ N sh ls vs kn M l up MP=some (if(l.filter p).any λv=>iY (σ v) then none else some (MP++(l.filter p).map λv=>⟨v,σ v⟩))
 |[],up,MP,_,_,_=>by rw[zQ];simp|v::l,up,MP,i,j,F=>by
  let⟨k,m⟩:=i v aE;let⟨k0,G,n,k3,k4⟩:=d v k m;let⟨o,y,q,J⟩:=j.lI (k:=k.toNat) X;have r:c k.toNat<N.length:=by have:=(j.rt k.toNat X).2;omega
  have cc:c (c k.toNat)=c k.toNat:=j.cc X;rw[zQ,m];simp only[if_pos k0,y];have t:aN sh (c k.toNat:Int)=none/\(aN ls (c k.toNat:Int)).getD 0=v↔σ v=vr v:=by rw[k3];cases M with|zero=>exact n.elim|succ M =>rw[TF];cases e:aN sh (c k.toNat:Int) with
    |none =>
     have f:dx sh (c k.toNat)=none:=by grind[dx]
     rw[f];simp only[true_and,Ba,vr,Tm.mk.injEq,and_true]|some s =>
     have f:dx sh (c k.toNat)=some s.toNat:=by grind[dx]
     let⟨K,L,z⟩:=a.at_ _ r cc _ f;rw[f];simp only[vr,Tm.mk.injEq];exact⟨λh=>Z,λh=>absurd h.1 z⟩
  rw[k4,bR_];simp only[UD];by_cases e:σ v=vr v;rw[if_pos (t.2 e),P4 g a b d l o MP (λw A=>i w Z) q X];have:p v=false:=Z;rw[List.filter_cons_of_neg Z];rw[if_neg λh=>e (t.1 h)];have:p v=true:=(b v).2 e;rw[List.filter_cons_of_pos this];cases u:iY (σ v) with|true=>simp[u]|false =>let⟨B,x,C,E⟩:=YK (ls:=ls) g a M (c k.toNat) o n q X r cc;rw[<-k3]at x;simp only[x,bz_,if_false];rw[P4 g a b d l B _ (λw A=>i w Z) C E];simp[u]
theorem aht(E:List (Tm×Tm))(hw:∀e∈E,(e_ e.1/\kL e.1)/\e_ e.2/\kL e.2)(hz:zS E<=100000000000):∃b a,u7 E ⟨[],[],⟨[],[],[]⟩⟩ b a/\(b=false->oC iY E=([],13)) /\(b=true->sW a/\sO a.N/\a.N.length<=100000000000/\∃z up kn,A_ a.N a.js.sh (List.range a.N.length) a.js.up []=some (z,up,kn)/\(z=false->oC iY E=([],13)) /\(z=true->∀l,xD l->(∀v,v∈l↔v∈a.vs.map (·.1))->∃M ro,zQ a.N a.js.sh a.js.ls a.vs kn M l up []=some ro/\oC iY E=match ro with|none=>([],6)|some o=>(o,0))):=by
 let⟨b,a,f,u,L⟩:=YL (E:=E) E [] ⟨[],[],⟨[],[],[]⟩⟩ [] id (λe N=>⟨N,hw e N⟩) (λi d=>Z) Z .start ⟨λv=>rfl,rfl,aE⟩ (λp P=>Z) λe N=>Z;refine⟨b,a,f,λe=>Bc (u e),λe=>?_⟩;let⟨zzD,c,g,Q,mG,R,hD⟩:=L e;rw[aS_]at hD;let⟨hh,S⟩:=g.uf;have x:=g.ajy;refine⟨Q,mG,R,?_⟩;let⟨z,up,kn,m1,A9,l2,hK,_,m5,m6⟩:=PZ (lo:=Ba a.js.ls) x (List.range a.N.length) a.js.up [] (λj G=>aU_.1 G) S g.len (λC q T=>by cases T);refine⟨z,up,kn,m1,λe=>Bc λhu=>m6 e (ajz g hu),λe l J K=>?_⟩;have V:u_ E a.N c:=g.gi.closed hD;have s:∀i,i<a.N.length->c (c i)=c i/\c i<a.N.length:=λi d=>⟨S.cc (by rw[g.len];exact d),by have:=(S.rt i (by rw[g.len];exact d)).2;rw[g.len]at this;exact this⟩;have FT:∀i,i<a.N.length->∃m,iK a.N c (dx a.js.sh) m (c i)/\aN kn (c i:Int)=some (qJ (TF a.N c (dx a.js.sh) (Ba a.js.ls) m (c i))):=λi d=>by let⟨q,T⟩:=m5 e i (aU_.2 d);let⟨m,k1,k2⟩:=hK _ _ T;exact⟨m,k1,Z⟩
 have KT:∀i,i<a.N.length->(tn a.N i).k≠1->∃t,dx a.js.sh (c i)=some t:=λi d n=>by cases ht:dx a.js.sh (c i) with|some t=>exact⟨t,rfl⟩|none =>have:=g.CD (c i) (s i d).2 (s i d).1;rw[ht]at this;exact absurd (this i d rfl) n
 let⟨r,hr,YM⟩:=ahs V x KT s λi d=>let⟨m,h,_⟩:=FT i d;⟨m,h⟩;let⟨M,hM⟩:=Mu (sh:=dx a.js.sh) a.N.length λi d=>⟨_,YM i d⟩;have KU:∀(m C:Nat),C<a.N.length->c C=C->TF a.N c (dx a.js.sh) (Ba a.js.ls) m C=TF a.N c (λC=>if C<a.N.length/\c C=C then dx a.js.sh C else none) (Ba a.js.ls) m C:=by intro m;induction m with|zero=>intro C _ _;rfl|succ m ih =>intro C f u;rw[TF,TF];simp only[if_pos (And.intro f u)];cases hs:dx a.js.sh C with|none=>rfl|some t =>simp only[Tm.mk.injEq,true_and];refine aQ_ λj G=>?_;have je:=x.kid t (x.at_ C f u t hs).1 j G;exact ih (c j) (s j je).2 (s j je).1
 let⟨y,A⟩:∃y:Nat->Option Nat,y=λC=>if C<a.N.length/\c C=C then dx a.js.sh C else none:=⟨_,rfl⟩;rw[<-A]at KU;have fF:∀C t,y C=some t->t<a.N.length/\c t=C/\(tn a.N t).k≠1:=λC t h=>by rw[A]at h;simp only at h;split at h;rename_i hc;exact x.at_ C hc.1 hc.2 t h;grind
 have zK:∀i,i<a.N.length->y (c i)=none->∀j,j<a.N.length->c j=c i->(tn a.N j).k=1:=λi d h j G e=>dP_ λn=>Z;have UG:DM a.N c (TC a.N c y (Ba a.js.ls) r):=P5 V fF hr zK λi d h=>by have f:=g.aQ (c i) (s i d).2 (s i d).1;have u:=zK i d h;unfold Ba;cases J:aN a.js.ls (c i:Int) with|none=>rw[J]at f;exact absurd (u i d rfl) (f i d rfl)|some v =>rw[J]at f;let⟨⟨j,j1,j2,j3,j4⟩,j5⟩:=f;exact⟨j,j1,j2,j4.symm,λj' nB e=>Z⟩
 have P6:=P7 V UG hr;have W:∀{m m' C:Nat},iK a.N c (dx a.js.sh) m C->iK a.N c (dx a.js.sh) m' C->TF a.N c (dx a.js.sh) (Ba a.js.ls) m C=TF a.N c (dx a.js.sh) (Ba a.js.ls) m' C:=λ{m m' C}h h'=>by grind[A8]
 let⟨w,P8⟩:=au (I7 a.N c (TC a.N c y (Ba a.js.ls) r));have UH:∀i,i<a.N.length->(tn a.N i).k=1->∀m,iK a.N c (dx a.js.sh) m (c i)->w (tn a.N i).i=TF a.N c (dx a.js.sh) (Ba a.js.ls) m (c i):=λi d n m K=>by rw[P8,CE g.gi.g d n];unfold TC;rw[<-KU _ _ (s i d).2 (s i d).1];exact W (YM i d).succ K
 rw[<-P8]at P6;let⟨p,P⟩:∃p:Int->Bool,∀v,p v=true↔w v≠vr v:=by classical exact⟨λv=>decide (w v≠vr v),λv=>decide_eq_true_iff⟩
 refine⟨M,_,P4 (σ:=w) (M:=M) (p:=p) g.gi.g x P (λv k n=>?_) l up [] (λv hv=>xE.1 ((K v).1 hv)) A9 l2,?_⟩;rw[Q.vs]at n;cases B:oD a.N v with|none=>rw[B]at n;cases n|some j =>rw[B]at n;cases oJ_ n;let⟨F,a2,a3⟩:=FU B;show 0<=(j:Int)/\(j:Int).toNat<_/\iK _ _ _ M (c (j:Int).toNat)/\w v=TF _ _ _ _ M (c (j:Int).toNat)/\aN kn (c (j:Int).toNat:Int)=_;rw[ds_];let⟨m,w1,w2⟩:=FT j F;have f:=UH j F a2 M (hM j F);rw[a3]at f;exact⟨X,F,hM j F,f,Z⟩
 have hO:DN E w (l.filter p):=⟨P6,DO J,λv=>by rw[cb_,P];refine⟨λh=>h.2,λh=>⟨?_,h⟩⟩;rw[K,xE,Q.vs];cases B:oD a.N v with|some j=>exact⟨_,rfl⟩|none =>refine absurd ?_ h;rw[P8];exact JR λ⟨i,f,u,L⟩=>NI B i f u L⟩;rw[FV hO,P9];split<;>simp
end Go.Proofs.YtbdcmpknicjopaaGreat
