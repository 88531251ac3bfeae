import Derived.Test.YtbpabjmnhggajaaGreatOr18
namespace Go.Proofs.YtbpabjmnhggajaaGreat
set_option linter.all false
open Go.RowKit
section
set_option maxRecDepth 100000
attribute [local irreducible] ah aG ae ad
def KY:FQ 188 Tryz.f188:=aF Tryz.func188 Tryz.call188
def lA:List Nat:=[4,0,24,2,6,1,22,25,46,67,77,93]
def ah7:FQ 128 Tryz.f128:=aF Tryz.func128 Tryz.call128
def wY:List Nat:=[10,1,6,9,11,0,7,2,20]
mutual
def bB:Tm->Int->Int->Bool × Int
 |⟨k,i,n,a⟩,d,c=>if c - 1 < 0\/d < 1 then (false,c - 1) else if k=0 then (decide (-2147483648<=i) && decide (i<=2147483648) && vm n a,c - 1) else if k=1 then (decide (0<=i) && decide (i<=1048576) && vm n a,c - 1)
  else if k=2 then (if i ≠ 0\/(a.length:Int) > 6 then (false,c - 1) else if mC n || (eB n && a.length == 2) then c9 a (d - 1) (c - 1) else (false,c - 1)) else (false,c - 1)
def c9:List Tm->Int->Int->Bool × Int
 |[],d,c=>(true,c)
 |x::l,d,c=>if (bB x d c).1 then c9 l d (bB x d c).2 else (false,(bB x d c).2)
end
theorem kC {N:Nat}{l:List (Nat × Ob)}(h:l.all (λp=>Nat.blt p.1 N)=true):∀k o,fb l k=some o->k < N:=λk o a=>by
 have:=aP_.1 h _ (fp a);exact lk this
theorem rB {N d:Nat}{f:Nat->Option Ob}{a:Option Ob}(h:∀k o,f k=some o->k < N) (b:Nat.blt d N=true):∀k o,bE f d a k=some o->k < N:=λk o c=>by grind[lk,aO]
def iZ (c:Int):Ob:=.arr 1 [[iv c]] 0 true
theorem kY (c:Int):∀row ∈ [[iv c]],∀a ∈ row,Pure a:=λrow b a d=>by
 obtain rfl:=ae_.1 b;obtain rfl:=ae_.1 d;exact .v
theorem nk {B:Nat}(c:Int):h_ B (iZ c):=mu (row:=[iv c]) (by intro a b;obtain rfl:=ae_.1 b;exact .v)
section
variable {w0:World}{ρ:Hd}
theorem zE {a:List Tm}(d:Int) (v:∀x ∈ a,∀c,0<=c->c<=200->(0<=(bB x d c).2\/(bB x d c).1=false)/\(bB x d c).2<=c/\aG Tryz.prog w0 188 [.pt 0 1 0 0,tm ρ x,iv d] (aq [(0,iZ c)] 1) (.v (.bool (bB x d c).1)) (aq [(0,iZ (bB x d c).2)] 1))
  (F:a.length<=1099511627776) (c:Int) (w:0<=c) (z:c<=200) :
  aG Tryz.prog w0 128 [.pt 0 1 0 0,tl ρ a,iv d] (aq [(0,iZ c)] 1) (.v (.bool (c9 a d c).1)) (aq [(0,iZ (c9 a d c).2)] 1):=by
 obtain⟨R,o⟩:∃R,R=c9 a d c:=⟨_,rfl⟩;rw[<-o];refine sc 1 1 ah7 ?_;refine gq wY ?_
 repeat' (first
  |refine lg wY λm G=>?_
  )
 refine ad.aK (σ:=Int × Int) 1 1 [] (λp=>[(0,.pt 0 1 0 0),(1,tl ρ a),(2,iv d),(9,.v (.int .i64 m)),(10,.v (.int .i64 p.1))]) [] (λp=>[(0,iZ p.2)])
  (λp=>∃k:Nat,p.1=k/\k<=a.length/\0<=p.2/\p.2<=200/\R=c9 (a.drop k) d p.2) (λp=>a.length - p.1.toNat) (0,c) ⟨0,rfl,by simp,w,z,o⟩ rfl
  cz ?_
 rintro⟨i,c⟩ ⟨k,q,H,r,s,f⟩;simp only at q r s f;refine gq wY ?_;by_cases B:k < a.length
 ·obtain⟨y,t,C⟩:=aD B;rw[C,c9]at f;obtain⟨j,u,n⟩:=v y (bM t) c r s;obtain⟨⟨b,h⟩,D⟩:∃p,p=bB y d c:=⟨_,rfl⟩;rw[<-D]at j u n f;simp only at j u n f
  repeat' (first
   |refine og wY (ae.ind rfl rfl (cC (l:=a) q t) cD) ?_
   |(refine bg wY (ae.mY (m:=[(0,0)]) (to:=[(0,some (iZ h))]) n rfl ⟨Rn.pt rfl rfl,Rn.pure (bQ _),Rn.pure .v,trivial⟩ (Rb.pure .v) rfl rfl ⟨⟨_,rfl,lj.pure (kY _)⟩,trivial⟩ ⟨⟨0,_,rfl,rfl,me.pure (kY _)⟩,trivial⟩ rfl (kC rfl) (.inr rfl)) (λg=>?_) λg=>?_)
   |refine cg wY (λg=>?_) λg=>?_
   |refine ag wY λ_ _=>?_
   |refine ad.ao ?_;refine gq wY ?_
   |refine ad.bh ?_;refine gq wY ?_
   |(refine fq ?_))
  all_goals first
   |(have e:R=(false,h):=by rw[f,g];rfl
     rw[e];exact⟨[],.aC .v,⟨.inl ⟨_,rfl,.same (nk _)⟩,trivial⟩,rfl⟩)
   |(have e:R=c9 (a.drop (k+1)) d h:=by rw[f,if_pos g]
     have E:0<=h:=j.resolve_right (by rw[g];simp);refine ad.az (σ:=Int × Int) (_,h) [] ?_ ?_ cz
     ·exact⟨k+1,by simp only;omega,by omega,E,by simp only;omega,e⟩
     ·simp only;omega)
   |exfalso;omega
 ·skip
  repeat' (first
   |refine cg wY (λg=>?_) λg=>?_
   |refine ad.ao ?_;refine gq wY ?_
   |(refine fq ?_))
  all_goals first
   |exfalso;omega
   |(rw[ak_ (by omega),c9]at f
     rw[f];exact⟨[],.aC .v,⟨.inl ⟨_,rfl,.same (nk _)⟩,trivial⟩,rfl⟩)
theorem GZ:∀(l:List Tm) (d:Int) (h:∀x ∈ l,∀c,0<=c->(0<=(bB x d c).2\/(bB x d c).1=false)/\(bB x d c).2<=c) (c:Int),0<=c->(0<=(c9 l d c).2\/(c9 l d c).1=false)/\(c9 l d c).2<=c
 |[],d,h,c,a=>by grind[c9]
 |x::l,d,h,c,a=>by
  obtain⟨b,g⟩:=h x (by simp) c a;rw[c9];split
  ·rename_i i;have e:=b.resolve_right (by grind);obtain⟨f,j⟩:=GZ l d (λy k=>h y (by grind)) _ e;exact⟨f,by omega⟩
  ·grind
theorem ju (x:Tm):∀(d c:Int),0<=c->(0<=(bB x d c).2\/(bB x d c).1=false)/\(bB x d c).2<=c:=by
 refine Tm.ind (p:=λx=>∀(d c:Int),0<=c->(0<=(bB x d c).2\/(bB x d c).1=false)/\(bB x d c).2<=c) ?_ x;intro k i n a e d c b;rw[bB];have f:=GZ a (d - 1) (λy g c b=>e y g (d - 1) c b) (c - 1)
 (repeat' split)<;>first
  |exact⟨.inr rfl,by grind⟩
  |exact⟨.inl (by grind),by grind⟩
  |obtain⟨h,j⟩:=f (by omega);exact⟨h,by omega⟩
theorem abB (F:∀s:ByteArray,ah Tryz.prog w0 230 [.v (.string s)] (.v (.bool (eB s)))) (k i:Int) (n:ByteArray) (a:List Tm) (t:∀x ∈ a,∀(d c:Int),x.ok->0<=c->c<=200->-1000<=d->d<=1000->aG Tryz.prog w0 188 [.pt 0 1 0 0,tm ρ x,iv d] (aq [(0,iZ c)] 1) (.v (.bool (bB x d c).1)) (aq [(0,iZ (bB x d c).2)] 1))
  (d c:Int) (u:(Tm.mk k i n a).ok) (I:0<=c) (J:c<=200) (K:-1000<=d) (L:d<=1000) (G:k=0):aG Tryz.prog w0 188 [.pt 0 1 0 0,tm ρ ⟨k,i,n,a⟩,iv d] (aq [(0,iZ c)] 1) (.v (.bool (bB ⟨k,i,n,a⟩ d c).1)) (aq [(0,iZ (bB ⟨k,i,n,a⟩ d c).2)] 1):=by
 subst G;obtain⟨g,v,h⟩:=u.out;dsimp only at g v h;have w:a.isEmpty=decide ((a.length:Int)=0):=by
  cases a with
  |nil=>rfl
  |cons x l=>simp;omega
 have z:(a.length == 2)=decide ((a.length:Int)=2):=by rw[bI_];simp;omega
 obtain⟨R,b⟩:∃R,R=bB ⟨0,i,n,a⟩ d c:=⟨_,rfl⟩;rw[<-b];rw[bB,vm,w,z]at b;have f:∀j,j=d - 1->0<=c - 1->1<=d->aG Tryz.prog w0 128 [.pt 0 1 0 0,tl ρ a,iv j] (aq [(0,iZ (c - 1))] 1) (.v (.bool (c9 a (d - 1) (c - 1)).1)) (aq [(0,iZ (c9 a (d - 1) (c - 1)).2)] 1):=λj H o M=>by
  subst H;exact zE (d - 1) (λy A N q o=>⟨(ju y _ _ q).1,(ju y _ _ q).2,t y A _ _ (h.mem y A) q o (by omega) (by omega)⟩) g (c - 1) o (by omega)
 obtain⟨⟨O,P⟩,B⟩:∃p,p=c9 a (d - 1) (c - 1):=⟨_,rfl⟩;rw[<-B]at f b;simp only at f;obtain⟨ce,C⟩:∃ce,ce=c - 1:=⟨_,rfl⟩;rw[<-C]at f b;clear t B;refine sc 1 1 KY ?_;refine gq lA ?_;refine ad.int rfl (ae.yf (c:=c - 1) rfl rfl rfl (by omega) (by omega)) λe D=>?_;rw[<-C]at D;subst D;refine gq lA ?_
 repeat' (first
  |exact absurd E (by decide)
  |refine cg lA (λE=>?_) λE=>?_
  |refine lg lA λm Q=>?_
  |(refine fq ?_))
 all_goals (clear F f u g v h w z)
 all_goals first
  |(have r:R=(false,e):=by
      rw[b]
      first
       |rw[if_pos (by omega)]
       |rw[if_neg (by omega),if_pos rfl];refine Prod.ext ?_ rfl;simp_all<;>(intros;omega)
    rw[r];exact⟨[],.aC .v,⟨.inl ⟨_,rfl,.same (nk _)⟩,trivial⟩,rfl⟩)
  |(have r:R=(true,e):=by
      rw[b,if_neg (by omega),if_pos rfl];refine Prod.ext ?_ rfl;simp_all<;>(intros;omega)
    rw[r];exact⟨[],.aC .v,⟨.inl ⟨_,rfl,.same (nk _)⟩,trivial⟩,rfl⟩)
theorem abC (F:∀s:ByteArray,ah Tryz.prog w0 230 [.v (.string s)] (.v (.bool (eB s)))) (k i:Int) (n:ByteArray) (a:List Tm) (t:∀x ∈ a,∀(d c:Int),x.ok->0<=c->c<=200->-1000<=d->d<=1000->aG Tryz.prog w0 188 [.pt 0 1 0 0,tm ρ x,iv d] (aq [(0,iZ c)] 1) (.v (.bool (bB x d c).1)) (aq [(0,iZ (bB x d c).2)] 1))
  (d c:Int) (u:(Tm.mk k i n a).ok) (I:0<=c) (J:c<=200) (K:-1000<=d) (L:d<=1000) (G:k=1):aG Tryz.prog w0 188 [.pt 0 1 0 0,tm ρ ⟨k,i,n,a⟩,iv d] (aq [(0,iZ c)] 1) (.v (.bool (bB ⟨k,i,n,a⟩ d c).1)) (aq [(0,iZ (bB ⟨k,i,n,a⟩ d c).2)] 1):=by
 subst G;obtain⟨g,v,h⟩:=u.out;dsimp only at g v h;have w:a.isEmpty=decide ((a.length:Int)=0):=by
  cases a with
  |nil=>rfl
  |cons x l=>simp;omega
 have z:(a.length == 2)=decide ((a.length:Int)=2):=by rw[bI_];simp;omega
 obtain⟨R,b⟩:∃R,R=bB ⟨1,i,n,a⟩ d c:=⟨_,rfl⟩;rw[<-b];rw[bB,vm,w,z]at b;have f:∀j,j=d - 1->0<=c - 1->1<=d->aG Tryz.prog w0 128 [.pt 0 1 0 0,tl ρ a,iv j] (aq [(0,iZ (c - 1))] 1) (.v (.bool (c9 a (d - 1) (c - 1)).1)) (aq [(0,iZ (c9 a (d - 1) (c - 1)).2)] 1):=λj H o M=>by
  subst H;exact zE (d - 1) (λy A N q o=>⟨(ju y _ _ q).1,(ju y _ _ q).2,t y A _ _ (h.mem y A) q o (by omega) (by omega)⟩) g (c - 1) o (by omega)
 obtain⟨⟨O,P⟩,B⟩:∃p,p=c9 a (d - 1) (c - 1):=⟨_,rfl⟩;rw[<-B]at f b;simp only at f;obtain⟨ce,C⟩:∃ce,ce=c - 1:=⟨_,rfl⟩;rw[<-C]at f b;clear t B;refine sc 1 1 KY ?_;refine gq lA ?_;refine ad.int rfl (ae.yf (c:=c - 1) rfl rfl rfl (by omega) (by omega)) λe D=>?_;rw[<-C]at D;subst D;refine gq lA ?_
 repeat' (first
  |exact absurd E (by decide)
  |refine cg lA (λE=>?_) λE=>?_
  |refine lg lA λm Q=>?_
  |(refine fq ?_))
 all_goals (clear F f u g v h w z)
 all_goals first
  |(have r:R=(false,e):=by
      rw[b]
      first
       |rw[if_pos (by omega)]
       |rw[if_neg (by omega),if_neg (by decide),if_pos rfl];refine Prod.ext ?_ rfl;simp_all<;>(intros;omega)
    rw[r];exact⟨[],.aC .v,⟨.inl ⟨_,rfl,.same (nk _)⟩,trivial⟩,rfl⟩)
  |(have r:R=(true,e):=by
      rw[b,if_neg (by omega),if_neg (by decide),if_pos rfl];refine Prod.ext ?_ rfl;simp_all<;>(intros;omega)
    rw[r];exact⟨[],.aC .v,⟨.inl ⟨_,rfl,.same (nk _)⟩,trivial⟩,rfl⟩)
theorem abD (w:∀s:ByteArray,ah Tryz.prog w0 230 [.v (.string s)] (.v (.bool (eB s)))) (k i:Int) (n:ByteArray) (a:List Tm) (z:∀x ∈ a,∀(d c:Int),x.ok->0<=c->c<=200->-1000<=d->d<=1000->aG Tryz.prog w0 188 [.pt 0 1 0 0,tm ρ x,iv d] (aq [(0,iZ c)] 1) (.v (.bool (bB x d c).1)) (aq [(0,iZ (bB x d c).2)] 1))
  (d c:Int) (A:(Tm.mk k i n a).ok) (J:0<=c) (K:c<=200) (L:-1000<=d) (M:d<=1000) (H:k=2):aG Tryz.prog w0 188 [.pt 0 1 0 0,tm ρ ⟨k,i,n,a⟩,iv d] (aq [(0,iZ c)] 1) (.v (.bool (bB ⟨k,i,n,a⟩ d c).1)) (aq [(0,iZ (bB ⟨k,i,n,a⟩ d c).2)] 1):=by
 subst H;obtain⟨j,o,q⟩:=A.out;dsimp only at j o q;have B:a.isEmpty=decide ((a.length:Int)=0):=by
  cases a with
  |nil=>rfl
  |cons x l=>simp;omega
 have C:(a.length == 2)=decide ((a.length:Int)=2):=by rw[bI_];simp;omega
 obtain⟨R,b⟩:∃R,R=bB ⟨2,i,n,a⟩ d c:=⟨_,rfl⟩;rw[<-b];rw[bB,vm,B,C]at b;have g:∀r,r=d - 1->0<=c - 1->1<=d->aG Tryz.prog w0 128 [.pt 0 1 0 0,tl ρ a,iv r] (aq [(0,iZ (c - 1))] 1) (.v (.bool (c9 a (d - 1) (c - 1)).1)) (aq [(0,iZ (c9 a (d - 1) (c - 1)).2)] 1):=λr I t N=>by
  subst I;exact zE (d - 1) (λy D O u t=>⟨(ju y _ _ u).1,(ju y _ _ u).2,z y D _ _ (q.mem y D) u t (by omega) (by omega)⟩) j (c - 1) t (by omega)
 obtain⟨⟨P,v⟩,E⟩:∃p,p=c9 a (d - 1) (c - 1):=⟨_,rfl⟩;rw[<-E]at g b;simp only at g;obtain⟨ce,F⟩:∃ce,ce=c - 1:=⟨_,rfl⟩;rw[<-F]at g b;clear z E;refine sc 1 1 KY ?_;refine gq lA ?_;refine ad.int rfl (ae.yf (c:=c - 1) rfl rfl rfl (by omega) (by omega)) λe G=>?_;rw[<-F]at G;subst G;refine gq lA ?_
 repeat' (first
  |refine bg lA (pl (zz _ o)) (λ_=>?_) λ_=>?_
  |refine bg lA (pl (w _)) (λ_=>?_) λ_=>?_
  |(refine bg lA (ae.mY (m:=[(0,0)]) (to:=[(0,some (iZ v))]) (g _ (by assumption) (by omega) (by omega)) rfl ⟨Rn.pt rfl rfl,Rn.pure (cG _),Rn.pure .v,trivial⟩ (Rb.pure .v) rfl rfl ⟨⟨_,rfl,lj.pure (kY _)⟩,trivial⟩ ⟨⟨0,_,rfl,rfl,me.pure (kY _)⟩,trivial⟩ rfl (by repeat (first|exact kC rfl|refine rB ?_ rfl)) (.inr rfl)) (λf=>?_) λf=>?_)
  |exact absurd f (by decide)
  |refine cg lA (λf=>?_) λf=>?_
  |refine lg lA λm Q=>?_
  |refine ag lA λ_ _=>?_
  |(refine fq ?_))
 all_goals (clear w g A j o q B C)
 all_goals rw[if_neg (by decide:¬ (2:Int)=0),if_neg (by decide:¬ (2:Int)=1),if_pos rfl]at b
 all_goals first
  |(have h:R=(false,e):=by
      rw[b]
      first
       |rw[if_pos (by omega)]
       |rw[if_neg (by omega),if_pos (by omega)]
       |rw[if_neg (by omega),if_neg (by omega),if_neg (by grind)]
    rw[h];exact⟨[],.aC .v,⟨.inl ⟨_,rfl,.same (nk _)⟩,trivial⟩,rfl⟩)
  |(have h:R=(true,v):=by
      rw[b,if_neg (by omega),if_neg (by omega),if_pos (by grind),f]
    rw[h];exact⟨[],.aC .v,⟨.inl ⟨_,rfl,.same (nk _)⟩,trivial⟩,rfl⟩)
  |(have h:R=(false,v):=by
      rw[b,if_neg (by omega),if_neg (by omega),if_pos (by clear b;simp_all),f]
    rw[h];exact⟨[],.aC .v,⟨.inl ⟨_,rfl,.same (nk _)⟩,trivial⟩,rfl⟩)
theorem abE (u:∀s:ByteArray,ah Tryz.prog w0 230 [.v (.string s)] (.v (.bool (eB s)))) (k i:Int) (n:ByteArray) (a:List Tm) (v:∀x ∈ a,∀(d c:Int),x.ok->0<=c->c<=200->-1000<=d->d<=1000->aG Tryz.prog w0 188 [.pt 0 1 0 0,tm ρ x,iv d] (aq [(0,iZ c)] 1) (.v (.bool (bB x d c).1)) (aq [(0,iZ (bB x d c).2)] 1))
  (d c:Int) (w:(Tm.mk k i n a).ok) (M:0<=c) (N:c<=200) (O:-1000<=d) (P:d<=1000) (F:¬ k=0/\¬ k=1/\¬ k=2):aG Tryz.prog w0 188 [.pt 0 1 0 0,tm ρ ⟨k,i,n,a⟩,iv d] (aq [(0,iZ c)] 1) (.v (.bool (bB ⟨k,i,n,a⟩ d c).1)) (aq [(0,iZ (bB ⟨k,i,n,a⟩ d c).2)] 1):=by
 obtain⟨G,H,I⟩:=F;obtain⟨g,h,j⟩:=w.out;dsimp only at g h j;have z:a.isEmpty=decide ((a.length:Int)=0):=by
  cases a with
  |nil=>rfl
  |cons x l=>simp;omega
 have A:(a.length == 2)=decide ((a.length:Int)=2):=by rw[bI_];simp;omega
 obtain⟨R,b⟩:∃R,R=bB ⟨k,i,n,a⟩ d c:=⟨_,rfl⟩;rw[<-b];rw[bB,vm,z,A]at b;have f:∀o,o=d - 1->0<=c - 1->1<=d->aG Tryz.prog w0 128 [.pt 0 1 0 0,tl ρ a,iv o] (aq [(0,iZ (c - 1))] 1) (.v (.bool (c9 a (d - 1) (c - 1)).1)) (aq [(0,iZ (c9 a (d - 1) (c - 1)).2)] 1):=λo J q Q=>by
  subst J;exact zE (d - 1) (λy B S r q=>⟨(ju y _ _ r).1,(ju y _ _ r).2,v y B _ _ (j.mem y B) r q (by omega) (by omega)⟩) g (c - 1) q (by omega)
 obtain⟨⟨T,K⟩,C⟩:∃p,p=c9 a (d - 1) (c - 1):=⟨_,rfl⟩;rw[<-C]at f b;simp only at f;obtain⟨ce,D⟩:∃ce,ce=c - 1:=⟨_,rfl⟩;rw[<-D]at f b;clear v C;refine sc 1 1 KY ?_;refine gq lA ?_;refine ad.int rfl (ae.yf (c:=c - 1) rfl rfl rfl (by omega) (by omega)) λe E=>?_;rw[<-D]at E;subst E;refine gq lA ?_
 repeat' (first
  |refine bg lA (pl (zz _ h)) (λ_=>?_) λ_=>?_
  |refine bg lA (pl (u _)) (λ_=>?_) λ_=>?_
  |(refine bg lA (ae.mY (m:=[(0,0)]) (to:=[(0,some (iZ K))]) (f _ (by assumption) (by omega) (by omega)) rfl ⟨Rn.pt rfl rfl,Rn.pure (cG _),Rn.pure .v,trivial⟩ (Rb.pure .v) rfl rfl ⟨⟨_,rfl,lj.pure (kY _)⟩,trivial⟩ ⟨⟨0,_,rfl,rfl,me.pure (kY _)⟩,trivial⟩ rfl (by repeat (first|exact kC rfl|refine rB ?_ rfl)) (.inr rfl)) (λt=>?_) λt=>?_)
  |refine cg lA (λt=>?_) λt=>?_
  |refine lg lA λm U=>?_
  |refine ag lA λ_ _=>?_
  |(refine fq ?_))
 all_goals (clear u f w g h j z A)
 all_goals first
  |exfalso;omega
  |(have L:R=(false,e):=by
      rw[b,if_neg G,if_neg H,if_neg I,ite_self]
    rw[L];exact⟨[],.aC .v,⟨.inl ⟨_,rfl,.same (nk _)⟩,trivial⟩,rfl⟩)
theorem IF (b:∀s:ByteArray,ah Tryz.prog w0 230 [.v (.string s)] (.v (.bool (eB s)))) (x:Tm):∀(d c:Int),x.ok->0<=c->c<=200->-1000<=d->d<=1000 ->
  aG Tryz.prog w0 188 [.pt 0 1 0 0,tm ρ x,iv d] (aq [(0,iZ c)] 1) (.v (.bool (bB x d c).1)) (aq [(0,iZ (bB x d c).2)] 1):=by
 refine Tm.ind (p:=λx=>∀(d c:Int),x.ok->0<=c->c<=200->-1000<=d->d<=1000 ->
  aG Tryz.prog w0 188 [.pt 0 1 0 0,tm ρ x,iv d] (aq [(0,iZ c)] 1) (.v (.bool (bB x d c).1)) (aq [(0,iZ (bB x d c).2)] 1)) ?_ x
 intro k i n a e d c f g h j l;by_cases m:k=0
 ·exact abB b k i n a e d c f g h j l m
 by_cases o:k=1
 ·exact abC b k i n a e d c f g h j l o
 by_cases q:k=2
 ·exact abD b k i n a e d c f g h j l q
 ·exact abE b k i n a e d c f g h j l ⟨m,o,q⟩
end
end
end Go.Proofs.YtbpabjmnhggajaaGreat
