import Derived.Test.YtbpabjmnhggajaaGreatOr40
namespace Go.Proofs.YtbpabjmnhggajaaGreat
set_option linter.all false
open Go.RowKit
section
set_option maxRecDepth 100000
attribute [local irreducible] ah aG ae ad
def ajr:FQ 106 Tryz.f106:=aF Tryz.func106 Tryz.call106
def qZ:List Nat:=[5,0,1,4,10,14,41]
def ajs:FQ 107 Tryz.f107:=aF Tryz.func107 Tryz.call107
def q8:List Nat:=[5,0,1,4,10,20,47]
def ajt:FQ 108 Tryz.f108:=aF Tryz.func108 Tryz.call108
def q9:List Nat:=[5,0,1,4,10,20,32]
def anI:FQ 59 Tryz.f59:=aF Tryz.func59 Tryz.call59
def NS:List Nat:=[2,3,4,0,1]
section
variable {w0:World}{ρ:Hd}
theorem Fc (a b:List Gl) (A:a.length<=1099511627776) (C:b.length<=1099511627776) (r:∀x ∈ a,JP x) (s:∀x ∈ b,JP x):ah Tryz.prog w0 105 [cE ρ a,cE ρ b] (.v (.bool (kE sy a b))):=by
 obtain⟨R,g⟩:∃R,R=kE sy a b:=⟨_,rfl⟩;rw[<-g];refine st ajq qY .v ?_
 repeat' (first
  |refine cg qY (λd=>?_) λd=>?_
  |refine lg qY λm h=>?_
  |(refine fq ?_))
 ·grind[CR,bY]
 have t:a.length=b.length:=by omega
 refine ad.aK (σ:=Int) 0 0 [] (λi=>[(0,cE ρ a),(1,cE ρ b),(5,.v (.int .i64 i))]) [] (λ_=>[]) (λi=>∃k:Nat,i=k/\k<=a.length/\R=kE sy (a.drop k) (b.drop k)) (λi=>a.length - i.toNat) 0 ⟨0,rfl,by simp,by grind⟩ rfl cq ?_;rintro i ⟨k,j,D,c⟩;clear g;refine gq qY ?_;by_cases v:k < a.length
 ·obtain⟨x,n,w⟩:=aD v;obtain⟨y,o,z⟩:=aD (l:=b) (k:=k) (by omega);have e:=r x (bM n);have f:=s y (bM o);rw[w,z,kE]at c;have E:=lO (ρ:=ρ) x;have hyp:=lO (ρ:=ρ) y;have p:=WY (w0:=w0) (ρ:=ρ) x y ⟨e.1.len,e.1.1⟩ ⟨f.1.len,f.1.1⟩;obtain⟨B,q⟩:∃b,b=sy x y:=⟨_,rfl⟩;rw[<-q]at c p;clear q e f;obtain⟨F,G,H⟩:=x;obtain⟨I,J,K⟩:=y
  repeat' (first
   |refine og qY (ae.ind rfl rfl (aB (l:=a) j n) (aA λ_=>rfl)) ?_
   |refine og qY (ae.ind rfl rfl (aB (l:=b) j o) (aA λ_=>rfl)) ?_
   |refine bg qY (pl p) (λ_=>?_) λ_=>?_
   |refine cg qY (λd=>?_) λd=>?_
   |refine lg qY λm h=>?_
   |refine ag qY λ_ _=>?_
   |refine ad.ao ?_;refine gq qY ?_
   |refine ad.bh ?_;refine gq qY ?_
   |(refine fq ?_))
  all_goals first
   |exfalso;omega
   |rw[c,show B=false by grind];exact bY rfl
   |(rw[show B=true by grind,aL_]at c
     refine ad.az (σ:=Int) _ [] ?_ ?_ cq<;>first|omega|exact⟨k+1,by omega,by omega,c⟩)
 ·rw[ak_ (by omega),ak_ (by omega),kE]at c
  repeat' (first
   |refine cg qY (λd=>?_) λd=>?_
   |refine lg qY λm h=>?_
   |refine ad.ao ?_;refine gq qY ?_
   |(refine fq ?_))
  all_goals first
   |exfalso;omega
   |rw[c];exact bY rfl
theorem Pq (a b:List Im) (D:a.length<=1099511627776) (E:b.length<=1099511627776) (t:∀x ∈ a,Im.ok x) (u:∀x ∈ b,Im.ok x):ah Tryz.prog w0 106 [tu ρ a,tu ρ b] (.v (.bool (kE FW a b))):=by
 obtain⟨R,g⟩:∃R,R=kE FW a b:=⟨_,rfl⟩;rw[<-g];refine st ajr qZ .v ?_
 repeat' (first
  |refine cg qZ (λd=>?_) λd=>?_
  |refine lg qZ λm h=>?_
  |(refine fq ?_))
 ·grind[CR,bY]
 have v:a.length=b.length:=by omega
 refine ad.aK (σ:=Int) 0 0 [] (λi=>[(0,tu ρ a),(1,tu ρ b),(5,.v (.int .i64 i))]) [] (λ_=>[]) (λi=>∃k:Nat,i=k/\k<=a.length/\R=kE FW (a.drop k) (b.drop k)) (λi=>a.length - i.toNat) 0 ⟨0,rfl,by simp,by grind⟩ rfl cq ?_;rintro i ⟨k,j,F,c⟩;clear g;refine gq qZ ?_;by_cases z:k < a.length
 ·obtain⟨x,n,A⟩:=aD z;obtain⟨y,o,C⟩:=aD (l:=b) (k:=k) (by omega);have e:=t x (bM n);have f:=u y (bM o);rw[A,C,kE]at c;have G:=lN (ρ:=ρ) ⟨x.n,x.a⟩;have hyp:=lN (ρ:=ρ) ⟨y.n,y.a⟩;have p:=WX (w0:=w0) (ρ:=ρ) ⟨x.n,x.a⟩ ⟨y.n,y.a⟩ ⟨e.1.len,e.1.1⟩ ⟨f.1.len,f.1.1⟩;rw[FW]at c;obtain⟨B,q⟩:∃b,b=(Iy ⟨x.n,x.a⟩ ⟨y.n,y.a⟩ == 0):=⟨_,rfl⟩;rw[<-q]at c p;clear q e f;obtain⟨r,H,I⟩:=x;obtain⟨s,J,K⟩:=y;dsimp only at c
  repeat' (first
   |refine og qZ (ae.ind rfl rfl (aB (l:=a) j n) (aA λ_=>rfl)) ?_
   |refine og qZ (ae.ind rfl rfl (aB (l:=b) j o) (aA λ_=>rfl)) ?_
   |refine bg qZ (pl p) (λ_=>?_) λ_=>?_
   |refine cg qZ (λd=>?_) λd=>?_
   |refine lg qZ λm h=>?_
   |refine ag qZ λ_ _=>?_
   |refine ad.ao ?_;refine gq qZ ?_
   |refine ad.bh ?_;refine gq qZ ?_
   |(refine fq ?_))
  all_goals first
   |exfalso;omega
   |rw[c,show (r == s)=false from beq_eq_false_iff_ne.2 (by omega)];exact bY rfl
   |rw[c,show B=false by grind];refine bY ?_;simp;done
   |(rw[show B=true by grind,show (r == s)=true from beq_iff_eq.2 (by omega),aL_,aL_]at c
     refine ad.az (σ:=Int) _ [] ?_ ?_ cq<;>first|omega|exact⟨k+1,by omega,by omega,c⟩)
 ·rw[ak_ (by omega),ak_ (by omega),kE]at c
  repeat' (first
   |refine cg qZ (λd=>?_) λd=>?_
   |refine lg qZ λm h=>?_
   |refine ad.ao ?_;refine gq qZ ?_
   |(refine fq ?_))
  all_goals first
   |exfalso;omega
   |rw[c];exact bY rfl
theorem Ps (a b:List Bd) (D:a.length<=1099511627776) (E:b.length<=1099511627776) (t:∀x ∈ a,Bd.ok x) (u:∀x ∈ b,Bd.ok x):ah Tryz.prog w0 107 [eg ρ a,eg ρ b] (.v (.bool (kE FX a b))):=by
 obtain⟨R,e⟩:∃R,R=kE FX a b:=⟨_,rfl⟩;rw[<-e];refine st ajs q8 .v ?_
 repeat' (first
  |refine cg q8 (λd=>?_) λd=>?_
  |refine lg q8 λm f=>?_
  |(refine fq ?_))
 ·grind[CR,bY]
 have v:a.length=b.length:=by omega
 refine ad.aK (σ:=Int) 0 0 [] (λi=>[(0,eg ρ a),(1,eg ρ b),(5,.v (.int .i64 i))]) [] (λ_=>[]) (λi=>∃k:Nat,i=k/\k<=a.length/\R=kE FX (a.drop k) (b.drop k)) (λi=>a.length - i.toNat) 0 ⟨0,rfl,by simp,by grind⟩ rfl cq ?_;rintro i ⟨k,g,F,c⟩;clear e;refine gq q8 ?_;by_cases z:k < a.length
 ·obtain⟨x,h,A⟩:=aD z;obtain⟨y,j,C⟩:=aD (l:=b) (k:=k) (by omega);have n:=t x (bM h);have o:=u y (bM j);rw[A,C,kE]at c;have p:=PR (w0:=w0) (ρ:=ρ) x.t y.t n.1 o.1;rw[FX]at c;obtain⟨B,q⟩:∃b,b=(iH x.t y.t == 0):=⟨_,rfl⟩;rw[<-q]at c p;clear q n o;obtain⟨r,G,H,I,J⟩:=x;obtain⟨s,K,L,M,N⟩:=y;dsimp only at c
  repeat' (first
   |refine og q8 (ae.ind rfl rfl (aB (l:=a) g h) (aA λ_=>rfl)) ?_
   |refine og q8 (ae.ind rfl rfl (aB (l:=b) g j) (aA λ_=>rfl)) ?_
   |refine bg q8 (pl p) (λ_=>?_) λ_=>?_
   |refine cg q8 (λd=>?_) λd=>?_
   |refine lg q8 λm f=>?_
   |refine ag q8 λ_ _=>?_
   |refine ad.ao ?_;refine gq q8 ?_
   |refine ad.bh ?_;refine gq q8 ?_
   |(refine fq ?_))
  all_goals first
   |exfalso;omega
   |rw[c,show (r == s)=false from beq_eq_false_iff_ne.2 (by omega)];exact bY rfl
   |rw[c,show B=false by grind];refine bY ?_;simp;done
   |(rw[show B=true by grind,show (r == s)=true from beq_iff_eq.2 (by omega),aL_,aL_]at c
     refine ad.az (σ:=Int) _ [] ?_ ?_ cq<;>first|omega|exact⟨k+1,by omega,by omega,c⟩)
 ·rw[ak_ (by omega),ak_ (by omega),kE]at c
  repeat' (first
   |refine cg q8 (λd=>?_) λd=>?_
   |refine lg q8 λm f=>?_
   |refine ad.ao ?_;refine gq q8 ?_
   |(refine fq ?_))
  all_goals first
   |exfalso;omega
   |rw[c];exact bY rfl
theorem SY (a b:List Fi) (B:a.length<=1099511627776) (D:b.length<=1099511627776) (s:∀x ∈ a,Fi.ok x) (t:∀x ∈ b,Fi.ok x):ah Tryz.prog w0 108 [ye ρ a,ye ρ b] (.v (.bool (kE FY a b))):=by
 obtain⟨R,f⟩:∃R,R=kE FY a b:=⟨_,rfl⟩;rw[<-f];refine st ajt q9 .v ?_
 repeat' (first
  |refine cg q9 (λe=>?_) λe=>?_
  |refine lg q9 λm g=>?_
  |(refine fq ?_))
 ·grind[CR,bY]
 have u:a.length=b.length:=by omega
 refine ad.aK (σ:=Int) 0 0 [] (λi=>[(0,ye ρ a),(1,ye ρ b),(5,.v (.int .i64 i))]) [] (λ_=>[]) (λi=>∃k:Nat,i=k/\k<=a.length/\R=kE FY (a.drop k) (b.drop k)) (λi=>a.length - i.toNat) 0 ⟨0,rfl,by simp,by grind⟩ rfl cq ?_;rintro i ⟨k,h,E,c⟩;clear f;refine gq q9 ?_;by_cases w:k < a.length
 ·obtain⟨x,j,z⟩:=aD w;obtain⟨y,n,A⟩:=aD (l:=b) (k:=k) (by omega);have o:=s x (bM j);have p:=t y (bM n);rw[z,A,kE]at c;have F:=wC (ρ:=ρ) x;have hyp:=wC (ρ:=ρ) y;have q:=aeA (w0:=w0) (ρ:=ρ) x y o p;rw[FY]at c;obtain⟨C,r⟩:∃b,b=FL x y:=⟨_,rfl⟩;rw[<-r]at c q;clear r o p;obtain⟨G,H⟩:=x;obtain⟨I,J⟩:=y
  repeat' (first
   |refine og q9 (ae.ind rfl rfl (aB (l:=a) h j) (aA λ_=>rfl)) ?_
   |refine og q9 (ae.ind rfl rfl (aB (l:=b) h n) (aA λ_=>rfl)) ?_
   |(refine ig q9 (pl q) λd K=>?_)
   |refine cg q9 (λe=>?_) λe=>?_
   |refine lg q9 λm g=>?_
   |refine ag q9 λ_ _=>?_
   |refine ad.ao ?_;refine gq q9 ?_
   |refine ad.bh ?_;refine gq q9 ?_
   |(refine fq ?_))
  all_goals first
   |exfalso;omega
   |rw[c,show (C == 0)=false from beq_eq_false_iff_ne.2 (by omega)];exact bY rfl
   |(rw[show (C == 0)=true from beq_iff_eq.2 (by omega),aL_]at c
     refine ad.az (σ:=Int) _ [] ?_ ?_ cq<;>first|omega|exact⟨k+1,by omega,by omega,c⟩)
 ·rw[ak_ (by omega),ak_ (by omega),kE]at c
  repeat' (first
   |refine cg q9 (λe=>?_) λe=>?_
   |refine lg q9 λm g=>?_
   |refine ad.ao ?_;refine gq q9 ?_
   |(refine fq ?_))
  all_goals first
   |exfalso;omega
   |rw[c];exact bY rfl
set_option maxHeartbeats 2000000 in
theorem afL (s t:EJ) (c:sok s) (d:sok t):ah Tryz.prog w0 59 [Jn ρ s,Jn ρ t] (.v (.bool (HA s t))):=by
 have e:=Fc (w0:=w0) (ρ:=ρ) s.goals t.goals c.gl d.gl c.gx d.gx;have f:=Fc (w0:=w0) (ρ:=ρ) s.known t.known c.kl d.kl c.kx d.kx;have g:=Pq (w0:=w0) (ρ:=ρ) s.store t.store c.st d.st c.sx d.sx;have h:=Ps (w0:=w0) (ρ:=ρ) s.binds t.binds c.bl d.bl c.bx d.bx;have i:=SY (w0:=w0) (ρ:=ρ) s.su t.su c.fl d.fl c.fx d.fx;obtain⟨R,a⟩:∃R,R=HA s t:=⟨_,rfl⟩;rw[<-a];unfold HA at a;obtain⟨p,j⟩:∃b,b=kE sy s.goals t.goals:=⟨_,rfl⟩;obtain⟨q,k⟩:∃b,b=kE FW s.store t.store:=⟨_,rfl⟩;obtain⟨r,l⟩:∃b,b=kE FX s.binds t.binds:=⟨_,rfl⟩;obtain⟨u,m⟩:∃b,b=kE FY s.su t.su:=⟨_,rfl⟩;obtain⟨v,n⟩:∃b,b=kE sy s.known t.known:=⟨_,rfl⟩;rw[<-j,<-k,<-l,<-m,<-n]at a;rw[<-j]at e;rw[<-k]at g;rw[<-l]at h;rw[<-m]at i;rw[<-n]at f;clear j k l m n c d;obtain⟨goals,store,binds,D,known,next,fresh,failed⟩:=s;obtain⟨x,y,z,A,B,next',w,o⟩:=t;dsimp only at a e f g h i;refine st anI NS .v ?_
 repeat' (first
  |refine bg NS (pl e) (λ_=>?_) λ_=>?_
  |refine bg NS (pl g) (λ_=>?_) λ_=>?_
  |refine bg NS (pl h) (λ_=>?_) λ_=>?_
  |refine bg NS (pl i) (λ_=>?_) λ_=>?_
  |refine bg NS (pl f) (λ_=>?_) λ_=>?_
  |refine cg NS (λC=>?_) λC=>?_
  |(refine fq ?_))
 all_goals first
  |refine bY ?_;rw[a,show p=false by grind];rfl
  |refine bY ?_;rw[a,show q=false by grind];simp;done
  |refine bY ?_;rw[a,show r=false by grind];simp;done
  |refine bY ?_;rw[a,show u=false by grind];simp;done
  |refine bY ?_;rw[a,show v=false by grind];simp;done
  |refine bY ?_;rw[a,show (next == next')=false from beq_eq_false_iff_ne.2 (by omega)];simp;done
  |refine bY ?_;rw[a,show (fresh == w)=false from beq_eq_false_iff_ne.2 (by omega)];simp;done
  |(rw[show p=true by grind,show q=true by grind,show r=true by grind,show u=true by grind,show v=true by grind,show (next == next')=true from beq_iff_eq.2 (by omega),show (fresh == w)=true from beq_iff_eq.2 (by omega)]at a
    refine bY ?_;rw[a];cases failed<;>cases o<;>simp_all;done)
end
end
end Go.Proofs.YtbpabjmnhggajaaGreat
