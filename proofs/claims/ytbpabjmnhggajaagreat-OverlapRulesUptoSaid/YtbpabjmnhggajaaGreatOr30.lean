import Derived.Test.YtbpabjmnhggajaaGreatOr29
namespace Go.Proofs.YtbpabjmnhggajaaGreat
set_option linter.all false
open Go.RowKit
section
set_option maxRecDepth 100000
attribute [local irreducible] ah aG ae ad
def amY:FQ 70 Tryz.f70:=aF Tryz.func70 Tryz.call70
def sS:List Nat:=[10,16,3,2,0,9,11,8,5,15,17,14,7]
def amZ:FQ 71 Tryz.f71:=aF Tryz.func71 Tryz.call71
def sT:List Nat:=[10,16,3,2,0,9,11,8,5,15,17,14,7]
def E3 (a:List Tm):Prop:=a.length<=1099511627776/\dG a/\(aY a).length<=1099511627776
section
variable {w0:World}{ρ:Hd}
theorem am0 (x:At) (h1:x.a.length<=1099511627776) (h2:dG x.a) (h3:(aY x.a).length<=1099511627776):ah Tryz.prog w0 129 [at_ ρ x] (aR ρ aI false (varsOf x.a)):=Hg x h1 h2 h3
theorem am1 (x:Gl) (h1:x.a.length<=1099511627776) (h2:dG x.a) (h3:(aY x.a).length<=1099511627776):ah Tryz.prog w0 130 [gl ρ x] (aR ρ aI false (varsOf x.a)):=Sg x h1 h2 h3
end
def Db (l:List At):List Int:=l.flatMap λx=>varsOf x.a
def Ht (L:List (List At)):List Int:=L.flatMap Db
def rowAt (ρ:Hd) (l:List At):List AV:=[cL ρ l]
section
variable {w0:World}{ρ:Hd}
theorem Sv (L:List (List At)):Pure (aR ρ (rowAt ρ) true L):=dT λx _ a b=>by
 obtain rfl:=ae_.1 b;exact dk x
theorem am2 (L:List (List At)) (Z:L.length<=1099511627776) (G:∀l ∈ L,l.length<=1099511627776/\∀x ∈ l,E3 x.a) (R:List Int) (u:R=Ht L) (hn:R.length<=1099511627776) :
  ∃len,len=R.length/\aG Tryz.prog w0 70 [aR ρ (rowAt ρ) true L] (aq [] 0) (.gr 0 1 len) (aq [(0,qw ρ R)] 1):=by
 refine⟨_,rfl,?_⟩;obtain⟨H,I⟩:∃n,n=R.length:=⟨_,rfl⟩;rw[<-I];have J:=Sv (ρ:=ρ) L;refine sc 0 1 amY ?_;refine gq sS ?_
 repeat' (first
  |refine lg sS λm hm=>?_
  )
 refine ad.aK (σ:=Int × List Int × Nat) 0 1 [] (λp=>[(3,.gr 0 1 p.2.2),(8,aR ρ (rowAt ρ) true L),(9,.v (.int .i64 m)),(10,.v (.int .i64 p.1))]) [] (λp=>[(0,qw ρ p.2.1)])
  (λp=>∃k:Nat,p.1=k/\k<=L.length/\R=p.2.1++Ht (L.drop k)/\p.2.2=p.2.1.length) (λp=>L.length - p.1.toNat) (0,[],0) ⟨0,rfl,by simp,by simpa using u,rfl⟩ rfl cz ?_
 rintro⟨j,g,len⟩ ⟨k,v,hk,c,h⟩;simp only at v c h;clear u;refine gq sS ?_;by_cases K:k < L.length
 ·obtain⟨y,w,M⟩:=aD K;obtain⟨Qj,o⟩:=G y (aa_ w);obtain⟨rest,z⟩:∃r,r=Ht (L.drop (k+1)):=⟨_,rfl⟩;rw[M,Ht,bm_,<-Ht,<-z]at c
  repeat' (first
   |refine og sS (ae.ind rfl rfl (aB (l:=L) v w) (aA λ_=>rfl)) ?_
   |refine ad.int rfl (ae.len rfl) λN O=>?_;rw[au]at O;refine gq sS ?_
   |refine cg sS (λb=>?_) λb=>?_
   |refine ad.ao ?_;refine gq sS ?_
   |(refine fq ?_))
  all_goals first
   |exfalso;omega
   |skip
  refine ad.aK (σ:=Int × List Int × Nat) 1 2 [(1,0)] (λp=>[(3,.gr 1 1 p.2.2),(8,aR ρ (rowAt ρ) true L),(9,.v (.int .i64 m)),(10,.v (.int .i64 j)),(14,cL ρ y),(15,.v (.int .i64 N)),(16,.v (.int .i64 p.1))]) [] (λp=>[(1,qw ρ p.2.1)])
   (λp=>∃q:Nat,p.1=q/\q<=y.length/\R=p.2.1++(Db (y.drop q)++rest)/\p.2.2=p.2.1.length) (λp=>y.length - p.1.toNat) (0,g,len) ⟨0,rfl,by simp,by simpa using c,h⟩ rfl cz ?_
  rintro⟨i,s,A⟩ ⟨q,B,hq,a,e⟩;simp only at B a e;clear c h;refine gq sS ?_;by_cases P:q < y.length
  ·obtain⟨x,C,Q⟩:=aD P;obtain⟨S,T,t⟩:=o x (aa_ C);have D:=am0 (w0:=w0) (ρ:=ρ) x S T t;rw[Q,Db,bm_,<-Db]at a;obtain⟨V,E⟩:∃V,V=varsOf x.a:=⟨_,rfl⟩;rw[<-E]at a D;have sU:s.length+V.length<=1099511627776:=by
    have:=congrArg List.length a;simp only[af_]at this;omega
   clear E;obtain⟨xn,xa⟩:=x
   repeat' (first
    |refine og sS (ae.ind rfl rfl (aB (l:=y) B C) (aA λ_=>rfl)) ?_
    |apply bK sS D
    |(refine ad.Xm (f:=aI) rfl rfl rfl e (λ_=>rfl) rfl (λ_=>rfl) (λ_=>rfl) (by omega) (λF=>?_) (λU W F X Y=>?_)<;>refine gq sS ?_)
    |refine cg sS (λb=>?_) λb=>?_
    |refine ag sS λ_ _=>?_
    |refine ad.ao ?_;refine gq sS ?_
    )
   all_goals first
    |exfalso;omega
    |(refine ad.az (σ:=Int × List Int × Nat) (_,s,A) [(1,1)] ?_ ?_ cz
      ·exact⟨q+1,by simp only;omega,by omega,by rw[a,F];rfl,e⟩
      ·simp only;omega)
    |(refine ad.az (σ:=Int × List Int × Nat) (_,U,W) [(1,3)] ?_ ?_ cz
      ·exact⟨q+1,by simp only;omega,by omega,by rw[a,X];simp only[bc_],Y⟩
      ·simp only;omega)
  ·rw[ak_ (by omega),Db,bD_,aK_]at a
   repeat' (first
    |refine cg sS (λb=>?_) λb=>?_
    |refine ag sS λ_ _=>?_
    |refine ad.ao ?_;refine gq sS ?_
    )
   all_goals first
    |exfalso;omega
    |(refine ad.az (σ:=Int × List Int × Nat) (_,s,A) [(0,1)] ?_ ?_ cz
      ·exact⟨k+1,by simp only;omega,by omega,by rw[a,z],e⟩
      ·simp only;omega)
 ·rw[ak_ (by omega),Ht,bD_,aB_]at c
  repeat' (first
   |refine cg sS (λb=>?_) λb=>?_
   |refine ad.ao ?_;refine gq sS ?_
   |(refine fq ?_))
  all_goals first
   |exfalso;omega
   |skip
  subst c;obtain rfl:len=H:=by omega
  exact⟨[(0,0)],.jT rfl rfl,⟨.inl ⟨_,rfl,.same qP⟩,trivial⟩,rfl⟩
end
def B0 (l:List Gl):List Int:=l.flatMap λx=>varsOf x.a
def sV (L:List (List Gl)):List Int:=L.flatMap B0
def Hu (ρ:Hd) (l:List Gl):List AV:=[cE ρ l]
section
variable {w0:World}{ρ:Hd}
theorem Sw (L:List (List Gl)):Pure (aR ρ (Hu ρ) true L):=dT λx _ a b=>by
 obtain rfl:=ae_.1 b;exact dM x
theorem am3 (L:List (List Gl)) (Z:L.length<=1099511627776) (G:∀l ∈ L,l.length<=1099511627776/\∀x ∈ l,E3 x.a) (R:List Int) (u:R=sV L) (hn:R.length<=1099511627776) :
  ∃len,len=R.length/\aG Tryz.prog w0 71 [aR ρ (Hu ρ) true L] (aq [] 0) (.gr 0 1 len) (aq [(0,qw ρ R)] 1):=by
 refine⟨_,rfl,?_⟩;obtain⟨H,I⟩:∃n,n=R.length:=⟨_,rfl⟩;rw[<-I];have J:=Sw (ρ:=ρ) L;refine sc 0 1 amZ ?_;refine gq sT ?_
 repeat' (first
  |refine lg sT λm hm=>?_
  )
 refine ad.aK (σ:=Int × List Int × Nat) 0 1 [] (λp=>[(3,.gr 0 1 p.2.2),(8,aR ρ (Hu ρ) true L),(9,.v (.int .i64 m)),(10,.v (.int .i64 p.1))]) [] (λp=>[(0,qw ρ p.2.1)])
  (λp=>∃k:Nat,p.1=k/\k<=L.length/\R=p.2.1++sV (L.drop k)/\p.2.2=p.2.1.length) (λp=>L.length - p.1.toNat) (0,[],0) ⟨0,rfl,by simp,by simpa using u,rfl⟩ rfl cz ?_
 rintro⟨j,g,len⟩ ⟨k,v,hk,c,h⟩;simp only at v c h;clear u;refine gq sT ?_;by_cases K:k < L.length
 ·obtain⟨y,w,M⟩:=aD K;obtain⟨Qj,o⟩:=G y (aa_ w);obtain⟨rest,z⟩:∃r,r=sV (L.drop (k+1)):=⟨_,rfl⟩;rw[M,sV,bm_,<-sV,<-z]at c
  repeat' (first
   |refine og sT (ae.ind rfl rfl (aB (l:=L) v w) (aA λ_=>rfl)) ?_
   |refine ad.int rfl (ae.len rfl) λN O=>?_;rw[au]at O;refine gq sT ?_
   |refine cg sT (λb=>?_) λb=>?_
   |refine ad.ao ?_;refine gq sT ?_
   |(refine fq ?_))
  all_goals first
   |exfalso;omega
   |skip
  refine ad.aK (σ:=Int × List Int × Nat) 1 2 [(1,0)] (λp=>[(3,.gr 1 1 p.2.2),(8,aR ρ (Hu ρ) true L),(9,.v (.int .i64 m)),(10,.v (.int .i64 j)),(14,cE ρ y),(15,.v (.int .i64 N)),(16,.v (.int .i64 p.1))]) [] (λp=>[(1,qw ρ p.2.1)])
   (λp=>∃q:Nat,p.1=q/\q<=y.length/\R=p.2.1++(B0 (y.drop q)++rest)/\p.2.2=p.2.1.length) (λp=>y.length - p.1.toNat) (0,g,len) ⟨0,rfl,by simp,by simpa using c,h⟩ rfl cz ?_
  rintro⟨i,s,A⟩ ⟨q,B,hq,a,e⟩;simp only at B a e;clear c h;refine gq sT ?_;by_cases P:q < y.length
  ·obtain⟨x,C,Q⟩:=aD P;obtain⟨S,T,t⟩:=o x (aa_ C);have D:=am1 (w0:=w0) (ρ:=ρ) x S T t;rw[Q,B0,bm_,<-B0]at a;obtain⟨V,E⟩:∃V,V=varsOf x.a:=⟨_,rfl⟩;rw[<-E]at a D;have sU:s.length+V.length<=1099511627776:=by
    have:=congrArg List.length a;simp only[af_]at this;omega
   clear E;obtain⟨xo,xn,xa⟩:=x
   repeat' (first
    |refine og sT (ae.ind rfl rfl (aB (l:=y) B C) (aA λ_=>rfl)) ?_
    |apply bK sT D
    |(refine ad.Xm (f:=aI) rfl rfl rfl e (λ_=>rfl) rfl (λ_=>rfl) (λ_=>rfl) (by omega) (λF=>?_) (λU W F X Y=>?_)<;>refine gq sT ?_)
    |refine cg sT (λb=>?_) λb=>?_
    |refine ag sT λ_ _=>?_
    |refine ad.ao ?_;refine gq sT ?_
    )
   all_goals first
    |exfalso;omega
    |(refine ad.az (σ:=Int × List Int × Nat) (_,s,A) [(1,1)] ?_ ?_ cz
      ·exact⟨q+1,by simp only;omega,by omega,by rw[a,F];rfl,e⟩
      ·simp only;omega)
    |(refine ad.az (σ:=Int × List Int × Nat) (_,U,W) [(1,3)] ?_ ?_ cz
      ·exact⟨q+1,by simp only;omega,by omega,by rw[a,X];simp only[bc_],Y⟩
      ·simp only;omega)
  ·rw[ak_ (by omega),B0,bD_,aK_]at a
   repeat' (first
    |refine cg sT (λb=>?_) λb=>?_
    |refine ag sT λ_ _=>?_
    |refine ad.ao ?_;refine gq sT ?_
    )
   all_goals first
    |exfalso;omega
    |(refine ad.az (σ:=Int × List Int × Nat) (_,s,A) [(0,1)] ?_ ?_ cz
      ·exact⟨k+1,by simp only;omega,by omega,by rw[a,z],e⟩
      ·simp only;omega)
 ·rw[ak_ (by omega),sV,bD_,aB_]at c
  repeat' (first
   |refine cg sT (λb=>?_) λb=>?_
   |refine ad.ao ?_;refine gq sT ?_
   |(refine fq ?_))
  all_goals first
   |exfalso;omega
   |skip
  subst c;obtain rfl:len=H:=by omega
  exact⟨[(0,0)],.jT rfl rfl,⟨.inl ⟨_,rfl,.same qP⟩,trivial⟩,rfl⟩
theorem aeY (L:List (List Gl)) (a:L.length<=1099511627776) (b:∀l ∈ L,l.length<=1099511627776/\∀x ∈ l,E3 x.a) (c:(sV L).length<=1099511627776) :
  ah Tryz.prog w0 71 [aR ρ (Hu ρ) true L] (aR ρ aI false (sV L)):=by
 obtain⟨len,d,e⟩:=am3 (w0:=w0) (ρ:=ρ) L a b _ rfl c;exact ah.zM e (aP.grow rfl d) (bt _)
end
end
end Go.Proofs.YtbpabjmnhggajaaGreat
